/- PROVED: what provisoref11.sameStmts answers. Conditions: the sizes bound the depth. -/
import Derived.Test.YtblgcodkbapccaaSamesRef
namespace Go.Proofs.Ytblgcodkbapccaa.SamesWalk
open Go.RowKit Go.Proofs.Ytblgcodkbapccaa.PParseSames Go.Proofs.YtblgcodkbapccaaW.PrintWords Go.Proofs.YtblgcodkbapccaaW.PrintLast Go.Proofs.YtblgcodkbapccaaW.PrintMore
attribute [local go_sem] max2_int min2_int max_two min_two max_three min_three max_four min_four
set_option linter.unusedVariables false
set_option linter.unusedSimpArgs false

theorem sameS_at {m n q : Nat} (h : n = q + 1) (x y : S109) : sameS m n x y = (x.f0 == y.f0 && (x.f2.toList == y.f2.toList && (x.f3.toList == y.f3.toList && (x.f4 == y.f4 && (eqf (sameE m) x.f5 y.f5 && (eqf (sameS m q) x.f6 y.f6 && eqf (sameS m q) x.f7 y.f7)))))) := by
  subst h
  rfl

set_option maxHeartbeats 8000000 in
set_option maxRecDepth 100000 in
theorem wrap62 (m n : Nat) (h0 : SameL111 83 m) (ih : ∀ q, n = q + 1 → SameL109 62 m q) (hmn : n ≤ m) : SameL109 62 m n := by
  intro A0 c0 l0 A1 c1 l1 w hr0 hr1 hs
  have HB := Aside0.mk (Below.refl w.heap.size w)
  have HC := Aside0.mk hr0
  have HD := Aside0.mk hr1
  have HS0 := Aside0.mk hs
  have HIH := Aside0.mk ih
  have H83 := Aside0.mk h0
  have HMN := Aside0.mk hmn
  have hlen : l0.length ≤ 9223372036854775807 := hr0.2.1
  clear hr0 hr1 hs ih h0 hmn
  obtain ⟨r, hr⟩ : ∃ r, eqf (sameS m n) l0 l1 = r := ⟨_, rfl⟩
  rw [hr]
  have HR := Aside0.mk hr
  clear hr
  by_cases c1 : (l0.length : Int) = (l1.length : Int)
  · have hl : l0.length = l1.length := by omega
    have HL := Aside0.mk hl
    have c1b : ((l0.length : Int) != (l1.length : Int)) = false := bne_eq_false_iff_eq.mpr c1
    have c1c : ((l0.length : Int) == (l1.length : Int)) = true := beq_iff_eq.mpr c1
    clear c1 hl
    have HE := Aside0.mk (show eqf (sameS m n) (l0.drop 0) (l1.drop 0) = r from HR.out)
    clear HR
    go_enter Try.func62, Try.ntmps62
    go_wp2
    go_loopw [15] (fun i wr => ∃ k : Nat, k ≤ l0.length ∧ i = .int .i64 k ∧ Aside0 (eqf (sameS m n) (l0.drop k) (l1.drop k) = r) ∧ Aside0 (Below w.heap.size w wr)) (fun i _ => l0.length - (intOf i).toNat)
    case atStart => exact ⟨0, Nat.zero_le _, rfl, HE, HB⟩
    case round =>
      clear HE HB
      obtain ⟨k, hk, rfl, HE, HB⟩ := hrel
      by_cases hlt : k < l0.length
      · have hlt1 : k < l1.length := by have := HL.out; omega
        obtain ⟨ad, cs, e, hK, hx⟩ := elem_at (Kd.C_below HC.out HB.out) k hlt
        subst e
        obtain ⟨ad', ds, e, hK', hx'⟩ := elem_at (Kd.C_below HD.out HB.out) k hlt1
        subst e
        have HE2 := Aside0.mk ((eqf_at (sameS m n) l0 l1 k hlt hlt1).symm.trans HE.out)
        have HN := Aside0.mk (show cs.length = 10 ∧ ds.length = 10 from ⟨k109.K_len hK, k109.K_len hK'⟩)
        have HO := Aside0.mk (And.intro (k109.K_one hK) (k109.K_one hK'))
        have HX := Aside0.mk (show ∀ j v, cs[j]? = some v → wr.cell? ((ad.add (k * 10)).add j) = some v from hx)
        have HX' := Aside0.mk (show ∀ j v, ds[j]? = some v → wr.cell? ((ad'.add (k * 10)).add j) = some v from hx')
        have hsz := HS0.out l0[k] (List.getElem_mem hlt)
        obtain ⟨x, hxe⟩ : ∃ x, l0[k] = x := ⟨_, rfl⟩
        obtain ⟨y, hye⟩ : ∃ y, l1[k] = y := ⟨_, rfl⟩
        rw [hxe] at hK hsz HE2
        rw [hye] at hK' HE2
        obtain ⟨q, hq⟩ : ∃ q, n = q + 1 := ⟨n - 1, by have := pos109 x; omega⟩
        have HSZ := Aside0.mk (show SizeOf.sizeOf x ≤ q + 1 by omega)
        have HQ := Aside0.mk hq
        have HIQ := Aside0.mk (HIH.out q hq)
        have HMQ := Aside0.mk (show q ≤ m by have := HMN.out; omega)
        obtain ⟨A5, c5, A6, c6, A7, c7, hcs, l5, g5, l6, g6, l7, g7⟩ := k109_open hK
        obtain ⟨B5, d5, B6, d6, B7, d7, hds, m5, j5, m6, j6, m7, j7⟩ := k109_open hK'
        have HCS := Aside0.mk (And.intro hcs hds)
        clear hx hx' hxe hye HE hcs hds hsz hq hK hK'
        have HG := Aside0.mk (And.intro g5 (And.intro g6 (And.intro g7 (And.intro j5 (And.intro j6 j7)))))
        clear g5 g6 g7 j5 j6 j7 l5 l6 l7 m5 m6 m7
        go_wp2_with fail
        refine start_ (n := 12) (S := fun w' => Below wr.heap.size wr w') (ds := []) #[false, false, false, false, false, false, false, false, false, false, false, false] (by kernel_rfl) rfl rfl (below_drew1 (Below.refl wr.heap.size wr)) (fun hHeld => ?_)
        generalize wr.drew = w5 at hHeld ⊢
        refine pure_ (i := 0) (N := some 18) (v := ?_) (a' := ?_) #[true, false, false, false, false, false, false, false, false, false, false, false] rfl rfl (by kernel_rfl) (fun _ _ _ h => h) (Or.inl ⟨by rfl, ?_⟩) ?_ ?_
        rotate_left
        · intro w'
          go_simp
          with_reducible rfl
        rotate_left
        · simp only [Act.put, List.setIfInBounds_toArray, List.set_cons_zero, List.set_cons_succ, i64_w, i32_w]
          rfl
        refine pure_ (i := 1) (N := some 19) (v := ?_) (a' := ?_) #[true, true, false, false, false, false, false, false, false, false, false, false] rfl rfl (by kernel_rfl) (fun _ _ _ h => h) (Or.inl ⟨by rfl, ?_⟩) ?_ ?_
        rotate_left
        · intro w'
          go_simp
          with_reducible rfl
        rotate_left
        · simp only [Act.put, List.setIfInBounds_toArray, List.set_cons_zero, List.set_cons_succ, i64_w, i32_w]
          rfl
        refine pure_ (i := 2) (N := some 20) (v := ?_) (a' := ?_) #[true, true, true, false, false, false, false, false, false, false, false, false] rfl rfl (by kernel_rfl) (fun _ _ _ h => h) (Or.inl ⟨by rfl, ?_⟩) ?_ ?_
        rotate_left
        · intro w'
          go_simp
          with_reducible rfl
        rotate_left
        · simp only [Act.put, List.setIfInBounds_toArray, List.set_cons_zero, List.set_cons_succ, i64_w, i32_w]
          rfl
        refine take_ (i := 3) (N := some 21) (v := .agg cs.toArray) (a' := ?_) #[true, true, true, true, false, false, false, false, false, false, false, false] rfl rfl (by kernel_rfl) (fun _ _ _ h => h) (Or.inl ⟨by rfl, fun w' hS => exec_load (P := Try.prog) (ty := 109) (x := .tmp 20) rfl (show (Instr.loadAt 109 (.pointer (some (ad.add (k * 10))))).run Try.prog w' = _ from load_run (row_below hS HX.out) Try.underlying109 rfl size109 HN.out.1)⟩) hHeld ?_ ?_
        rotate_left
        · simp only [Act.put, List.setIfInBounds_toArray, List.set_cons_zero, List.set_cons_succ, i64_w, i32_w]
          rfl
        refine pure_ (i := 4) (N := some 22) (v := ?_) (a' := ?_) #[true, true, true, true, true, false, false, false, false, false, false, false] rfl rfl (by kernel_rfl) (fun _ _ _ h => h) (Or.inl ⟨by rfl, ?_⟩) ?_ ?_
        rotate_left
        · intro w'
          go_simp
          with_reducible rfl
        rotate_left
        · simp only [Act.put, List.setIfInBounds_toArray, List.set_cons_zero, List.set_cons_succ, i64_w, i32_w]
          rfl
        refine pure_ (i := 5) (N := some 23) (v := ?_) (a' := ?_) #[true, true, true, true, true, true, false, false, false, false, false, false] rfl rfl (by kernel_rfl) (fun _ _ _ h => h) (Or.inl ⟨by rfl, ?_⟩) ?_ ?_
        rotate_left
        · intro w'
          go_simp
          with_reducible rfl
        rotate_left
        · simp only [Act.put, List.setIfInBounds_toArray, List.set_cons_zero, List.set_cons_succ, i64_w, i32_w]
          rfl
        refine pure_ (i := 6) (N := some 24) (v := ?_) (a' := ?_) #[true, true, true, true, true, true, true, false, false, false, false, false] rfl rfl (by kernel_rfl) (fun _ _ _ h => h) (Or.inl ⟨by rfl, ?_⟩) ?_ ?_
        rotate_left
        · intro w'
          go_simp
          with_reducible rfl
        rotate_left
        · simp only [Act.put, List.setIfInBounds_toArray, List.set_cons_zero, List.set_cons_succ, i64_w, i32_w]
          rfl
        refine take_ (i := 7) (N := some 25) (v := .agg ds.toArray) (a' := ?_) #[true, true, true, true, true, true, true, true, false, false, false, false] rfl rfl (by kernel_rfl) (fun _ _ _ h => h) (Or.inl ⟨by rfl, fun w' hS => exec_load (P := Try.prog) (ty := 109) (x := .tmp 24) rfl (show (Instr.loadAt 109 (.pointer (some (ad'.add (k * 10))))).run Try.prog w' = _ from load_run (row_below hS HX'.out) Try.underlying109 rfl size109 HN.out.2)⟩) hHeld ?_ ?_
        rotate_left
        · simp only [Act.put, List.setIfInBounds_toArray, List.set_cons_zero, List.set_cons_succ, i64_w, i32_w]
          rfl
        refine join_ 0 #[true, true, true, true, true, true, true, true, true, true, true, true] (fun s : Nat × Nat => [(6, .pointer (some ⟨s.1, 0, none⟩)), (7, .pointer (some ⟨s.2, 0, none⟩))]) (fun s w' => w'.heap[s.1]? = some (.cells cs.toArray 109 (0, 0)) ∧ w'.heap[s.2]? = some (.cells ds.toArray 109 (0, 0)) ∧ Below wr.heap.size wr w') ?_ (fun hcont0 => ?_)
        rotate_left
        · have hcont := fun gb gc w' F => hcont0 (gb, gc) w' F
          simp only [putAll, Act.put, List.setIfInBounds_toArray, List.set_cons_zero, List.set_cons_succ] at hcont
          clear hcont0
          have hz := zv109
          refine two_ (i := 8) (j := 9) (Ni := some 6) (Nj := some 7) #[true, true, true, true, true, true, true, true, true, false, false, false] #[true, true, true, true, true, true, true, true, false, true, false, false] rfl rfl rfl rfl (by kernel_rfl) (by decide) (by decide) (fun K hK => ?_) (fun K hK => ?_)
          · refine box_step (by rfl) (N := 6) rfl (cs := z_109.toArray) (t := 109) ?hr ?_
            case hr => first | (go_simp; done) | (go_simp; rfl)
            intro gb hg1 w6 hbox hb
            have hge1 : wr.heap.size ≤ gb := by rw [hg1]; exact below_size hHeld
            have hS6 := below_step hHeld hb
            refine hK.out _ _ hS6 (fun hHeld6 => ?_)
            clear hK K hHeld6
            refine norm_ (a' := ?_) ?_ ?_
            rotate_left
            · show Act.put _ (some 6) _ = _
              simp only [Act.put, List.setIfInBounds_toArray, List.set_cons_zero, List.set_cons_succ, i64_w, i32_w]
              rfl
            refine one_ (i := 9) (N := some 7) #[true, true, true, true, true, true, true, true, true, true, false, false] rfl rfl (by kernel_rfl) (by decide) (fun K hK => ?_)
            refine box_step (by rfl) (N := 7) rfl (cs := z_109.toArray) (t := 109) ?hr ?_
            case hr => first | (go_simp; done) | (go_simp; rfl)
            intro gc hg2 w7 hbox2 hb2
            have hge2 : wr.heap.size ≤ gc := by rw [hg2]; exact below_size hS6
            have hne : gb ≠ gc := by rw [hg2]; exact Nat.ne_of_lt (blk_lt hbox)
            have hbox1 := blk_below hbox hb2
            have hS7 := below_step hS6 hb2
            refine hK.out _ _ hS7 (fun hHeld7 => ?_)
            clear hK K hHeld7
            refine norm_ (a' := ?_) ?_ ?_
            rotate_left
            · show Act.put _ (some 7) _ = _
              simp only [Act.put, List.setIfInBounds_toArray, List.set_cons_zero, List.set_cons_succ, i64_w, i32_w]
              rfl
            refine one_ (i := 10) (N := none) #[true, true, true, true, true, true, true, true, true, true, true, false] rfl rfl (by kernel_rfl) (by decide) (fun K hK => ?_)
            refine store_step (w0 := wr) (base := wr.heap.size) (g := gb) (c' := cs) (by rfl) rfl rfl rfl rfl hbox1 size109 HN.out.1 rfl HO.out.1 hS7 hge1 ?_
            intro w8 hbc8 hS8 hoth8
            refine hK.out _ _ hS8 (fun hHeld8 => ?_)
            clear hK K hHeld8
            have hboxc := (hoth8 gc hne.symm).trans hbox2
            refine one_ (i := 11) (N := none) #[true, true, true, true, true, true, true, true, true, true, true, true] rfl rfl (by kernel_rfl) (by decide) (fun K hK => ?_)
            refine store_step (w0 := wr) (base := wr.heap.size) (g := gc) (c' := ds) (by rfl) rfl rfl rfl rfl hboxc size109 HN.out.2 rfl HO.out.2 hS8 hge2 ?_
            intro w9 hbc9 hS9 hoth9
            exact hK.out _ _ hS9 (fun _ => hcont gb gc w9 ⟨(hoth9 gb hne).trans hbc8, hbc9, hS9⟩)
          · refine box_step (by rfl) (N := 7) rfl (cs := z_109.toArray) (t := 109) ?hr ?_
            case hr => first | (go_simp; done) | (go_simp; rfl)
            intro gc hg1 w6 hbox hb
            have hge1 : wr.heap.size ≤ gc := by rw [hg1]; exact below_size hHeld
            have hS6 := below_step hHeld hb
            refine hK.out _ _ hS6 (fun hHeld6 => ?_)
            clear hK K hHeld6
            refine norm_ (a' := ?_) ?_ ?_
            rotate_left
            · show Act.put _ (some 7) _ = _
              simp only [Act.put, List.setIfInBounds_toArray, List.set_cons_zero, List.set_cons_succ, i64_w, i32_w]
              rfl
            refine one_ (i := 8) (N := some 6) #[true, true, true, true, true, true, true, true, true, true, false, false] rfl rfl (by kernel_rfl) (by decide) (fun K hK => ?_)
            refine box_step (by rfl) (N := 6) rfl (cs := z_109.toArray) (t := 109) ?hr ?_
            case hr => first | (go_simp; done) | (go_simp; rfl)
            intro gb hg2 w7 hbox2 hb2
            have hge2 : wr.heap.size ≤ gb := by rw [hg2]; exact below_size hS6
            have hne : gc ≠ gb := by rw [hg2]; exact Nat.ne_of_lt (blk_lt hbox)
            have hbox1 := blk_below hbox hb2
            have hS7 := below_step hS6 hb2
            refine hK.out _ _ hS7 (fun hHeld7 => ?_)
            clear hK K hHeld7
            refine norm_ (a' := ?_) ?_ ?_
            rotate_left
            · show Act.put _ (some 6) _ = _
              simp only [Act.put, List.setIfInBounds_toArray, List.set_cons_zero, List.set_cons_succ, i64_w, i32_w]
              rfl
            refine one_ (i := 10) (N := none) #[true, true, true, true, true, true, true, true, true, true, true, false] rfl rfl (by kernel_rfl) (by decide) (fun K hK => ?_)
            refine store_step (w0 := wr) (base := wr.heap.size) (g := gb) (c' := cs) (by rfl) rfl rfl rfl rfl hbox2 size109 HN.out.1 rfl HO.out.1 hS7 hge2 ?_
            intro w8 hbc8 hS8 hoth8
            refine hK.out _ _ hS8 (fun hHeld8 => ?_)
            clear hK K hHeld8
            have hboxc := (hoth8 gc hne).trans hbox1
            refine one_ (i := 11) (N := none) #[true, true, true, true, true, true, true, true, true, true, true, true] rfl rfl (by kernel_rfl) (by decide) (fun K hK => ?_)
            refine store_step (w0 := wr) (base := wr.heap.size) (g := gc) (c' := ds) (by rfl) rfl rfl rfl rfl hboxc size109 HN.out.2 rfl HO.out.2 hS8 hge1 ?_
            intro w9 hbc9 hS9 hoth9
            exact hK.out _ _ hS9 (fun _ => hcont gb gc w9 ⟨(hoth9 gb hne.symm).trans hbc8, hbc9, hS9⟩)
        rintro ⟨gb, gc⟩ w6 ⟨BKa, BCa, HSa⟩
        have BK := Aside0.mk BKa
        have BC := Aside0.mk BCa
        have HS := Aside0.mk HSa
        clear BKa BCa HSa hHeld
        refine norm_ (a' := ?_) ?_ ?_
        rotate_left
        · simp only [putAll, Act.put, List.setIfInBounds_toArray, List.set_cons_zero, List.set_cons_succ]
          rfl
        refine done_ (by kernel_rfl) ?_
        obtain ⟨g5, g6, g7, j5, j6, j7⟩ := HG.out
        have HGG := Aside0.mk (And.intro g5 (And.intro g6 (And.intro g7 (And.intro j5 (And.intro j6 j7)))))
        have G5 := Aside0.mk g5
        have G6 := Aside0.mk g6
        have G7 := Aside0.mk g7
        have J5 := Aside0.mk j5
        have J6 := Aside0.mk j6
        have J7 := Aside0.mk j7
        clear g5 g6 g7 j5 j6 j7 HG HGG HX HX' HN HO
        by_cases b0 : (x.f0 == y.f0) = true
        · skip
          have n0 : (x.f0 != y.f0) = false := by simp only [bne, b0, Bool.not_true]
          by_cases b1 : (x.f2.toList == y.f2.toList) = true
          · skip
            have n1 : (x.f2.toList != y.f2.toList) = false := by simp only [bne, b1, Bool.not_true]
            by_cases b2 : (x.f3.toList == y.f3.toList) = true
            · skip
              have n2 : (x.f3.toList != y.f3.toList) = false := by simp only [bne, b2, Bool.not_true]
              by_cases b3 : (x.f4 == y.f4) = true
              · skip
                have n3 : (x.f4 != y.f4) = false := by simp only [bne, b3, Bool.not_true]
                by_cases b4 : (eqf (sameE m) x.f5 y.f5) = true
                · skip
                  by_cases b5 : (eqf (sameS m q) x.f6 y.f6) = true
                  · skip
                    by_cases b6 : (eqf (sameS m q) x.f7 y.f7) = true
                    · skip
                      have hspec : sameS m n x y = true := by rw [sameS_at HQ.out]; simp [b0, b1, b2, b3, b4, b5, b6]
                      have hxs_0 : w6.cell? ⟨gb, 0, none⟩ = some (.int .i64 x.f0) := (by rw [blk_cell BK.out 0, HCS.out.1]; rfl)
                      have hys_0 : w6.cell? ⟨gc, 0, none⟩ = some (.int .i64 y.f0) := (by rw [blk_cell BC.out 0, HCS.out.2]; rfl)
                      have hxs_2 : w6.cell? ⟨gb, 2, none⟩ = some (.string x.f2) := (by rw [blk_cell BK.out 2, HCS.out.1]; rfl)
                      have hys_2 : w6.cell? ⟨gc, 2, none⟩ = some (.string y.f2) := (by rw [blk_cell BC.out 2, HCS.out.2]; rfl)
                      have hxs_3 : w6.cell? ⟨gb, 3, none⟩ = some (.string x.f3) := (by rw [blk_cell BK.out 3, HCS.out.1]; rfl)
                      have hys_3 : w6.cell? ⟨gc, 3, none⟩ = some (.string y.f3) := (by rw [blk_cell BC.out 3, HCS.out.2]; rfl)
                      have hxs_4 : w6.cell? ⟨gb, 4, none⟩ = some (.int .i64 x.f4) := (by rw [blk_cell BK.out 4, HCS.out.1]; rfl)
                      have hys_4 : w6.cell? ⟨gc, 4, none⟩ = some (.int .i64 y.f4) := (by rw [blk_cell BC.out 4, HCS.out.2]; rfl)
                      have hxs_5 : w6.cell? ⟨gb, 5, none⟩ = some (.slice A5 x.f5.length c5) := (by rw [blk_cell BK.out 5, HCS.out.1]; rfl)
                      have hys_5 : w6.cell? ⟨gc, 5, none⟩ = some (.slice B5 y.f5.length d5) := (by rw [blk_cell BC.out 5, HCS.out.2]; rfl)
                      have hxs_6 : w6.cell? ⟨gb, 6, none⟩ = some (.slice A6 x.f6.length c6) := (by rw [blk_cell BK.out 6, HCS.out.1]; rfl)
                      have hys_6 : w6.cell? ⟨gc, 6, none⟩ = some (.slice B6 y.f6.length d6) := (by rw [blk_cell BC.out 6, HCS.out.2]; rfl)
                      have hxs_7 : w6.cell? ⟨gb, 7, none⟩ = some (.slice A7 x.f7.length c7) := (by rw [blk_cell BK.out 7, HCS.out.1]; rfl)
                      have hys_7 : w6.cell? ⟨gc, 7, none⟩ = some (.slice B7 y.f7.length d7) := (by rw [blk_cell BC.out 7, HCS.out.2]; rfl)
                      go_wp2_with (first | (go_at_call_of 83 (Value.slice A5 x.f5.length c5); refine Calls.mono (H83.out A5 c5 x.f5 B5 d5 y.f5 _ (Kd.C_below G5.out HS.out) (Kd.C_below J5.out HS.out) (fun z hz => by have h1 := kid109e HSZ.out z hz; have h2 := HMQ.out; omega)) ?_; rintro e20 w20 ⟨rfl, hb⟩; have HS20 := Aside0.mk (below_step HS.out hb); have BK20 := Aside0.mk (blk_below BK.out hb); have BC20 := Aside0.mk (blk_below BC.out hb); clear hb; rw [b4]; have hx20_6 : w20.cell? ⟨gb, 6, none⟩ = some (.slice A6 x.f6.length c6) := (by rw [blk_cell BK20.out 6, HCS.out.1]; rfl); have hy20_6 : w20.cell? ⟨gc, 6, none⟩ = some (.slice B6 y.f6.length d6) := (by rw [blk_cell BC20.out 6, HCS.out.2]; rfl); have hx20_7 : w20.cell? ⟨gb, 7, none⟩ = some (.slice A7 x.f7.length c7) := (by rw [blk_cell BK20.out 7, HCS.out.1]; rfl); have hy20_7 : w20.cell? ⟨gc, 7, none⟩ = some (.slice B7 y.f7.length d7) := (by rw [blk_cell BC20.out 7, HCS.out.2]; rfl)) | (go_at_call_of 62 (Value.slice A6 x.f6.length c6); refine Calls.mono (HIQ.out A6 c6 x.f6 B6 d6 y.f6 _ (Kd.C_below G6.out HS20.out) (Kd.C_below J6.out HS20.out) (fun z hz => kid109a HSZ.out z hz)) ?_; rintro e21 w21 ⟨rfl, hb⟩; have HS21 := Aside0.mk (below_step HS20.out hb); have BK21 := Aside0.mk (blk_below BK20.out hb); have BC21 := Aside0.mk (blk_below BC20.out hb); clear hb; rw [b5]; have hx21_7 : w21.cell? ⟨gb, 7, none⟩ = some (.slice A7 x.f7.length c7) := (by rw [blk_cell BK21.out 7, HCS.out.1]; rfl); have hy21_7 : w21.cell? ⟨gc, 7, none⟩ = some (.slice B7 y.f7.length d7) := (by rw [blk_cell BC21.out 7, HCS.out.2]; rfl)) | (go_at_call_of 62 (Value.slice A7 x.f7.length c7); refine Calls.mono (HIQ.out A7 c7 x.f7 B7 d7 y.f7 _ (Kd.C_below G7.out HS21.out) (Kd.C_below J7.out HS21.out) (fun z hz => kid109b HSZ.out z hz)) ?_; rintro e22 w22 ⟨rfl, hb⟩; have HS22 := Aside0.mk (below_step HS21.out hb); have BK22 := Aside0.mk (blk_below BK21.out hb); have BC22 := Aside0.mk (blk_below BC21.out hb); clear hb; rw [b6]))
                      have HE3 := Aside0.mk (show eqf (sameS m n) (l0.drop (k + 1)) (l1.drop (k + 1)) = r by have h := HE2.out; rw [hspec, Bool.true_and] at h; exact h)
                      have HBW := Aside0.mk (below_step HB.out HS22.out)
                      go_roundw
                      case rel => exact ⟨k + 1, by omega, by go_num, HE3, HBW⟩
                      case measure => simp [intOf]; omega
                    · replace b6 : (eqf (sameS m q) x.f7 y.f7) = false := by simpa using b6
                      have hspec : sameS m n x y = false := by rw [sameS_at HQ.out]; simp [b0, b1, b2, b3, b4, b5, b6]
                      have hxs_0 : w6.cell? ⟨gb, 0, none⟩ = some (.int .i64 x.f0) := (by rw [blk_cell BK.out 0, HCS.out.1]; rfl)
                      have hys_0 : w6.cell? ⟨gc, 0, none⟩ = some (.int .i64 y.f0) := (by rw [blk_cell BC.out 0, HCS.out.2]; rfl)
                      have hxs_2 : w6.cell? ⟨gb, 2, none⟩ = some (.string x.f2) := (by rw [blk_cell BK.out 2, HCS.out.1]; rfl)
                      have hys_2 : w6.cell? ⟨gc, 2, none⟩ = some (.string y.f2) := (by rw [blk_cell BC.out 2, HCS.out.2]; rfl)
                      have hxs_3 : w6.cell? ⟨gb, 3, none⟩ = some (.string x.f3) := (by rw [blk_cell BK.out 3, HCS.out.1]; rfl)
                      have hys_3 : w6.cell? ⟨gc, 3, none⟩ = some (.string y.f3) := (by rw [blk_cell BC.out 3, HCS.out.2]; rfl)
                      have hxs_4 : w6.cell? ⟨gb, 4, none⟩ = some (.int .i64 x.f4) := (by rw [blk_cell BK.out 4, HCS.out.1]; rfl)
                      have hys_4 : w6.cell? ⟨gc, 4, none⟩ = some (.int .i64 y.f4) := (by rw [blk_cell BC.out 4, HCS.out.2]; rfl)
                      have hxs_5 : w6.cell? ⟨gb, 5, none⟩ = some (.slice A5 x.f5.length c5) := (by rw [blk_cell BK.out 5, HCS.out.1]; rfl)
                      have hys_5 : w6.cell? ⟨gc, 5, none⟩ = some (.slice B5 y.f5.length d5) := (by rw [blk_cell BC.out 5, HCS.out.2]; rfl)
                      have hxs_6 : w6.cell? ⟨gb, 6, none⟩ = some (.slice A6 x.f6.length c6) := (by rw [blk_cell BK.out 6, HCS.out.1]; rfl)
                      have hys_6 : w6.cell? ⟨gc, 6, none⟩ = some (.slice B6 y.f6.length d6) := (by rw [blk_cell BC.out 6, HCS.out.2]; rfl)
                      have hxs_7 : w6.cell? ⟨gb, 7, none⟩ = some (.slice A7 x.f7.length c7) := (by rw [blk_cell BK.out 7, HCS.out.1]; rfl)
                      have hys_7 : w6.cell? ⟨gc, 7, none⟩ = some (.slice B7 y.f7.length d7) := (by rw [blk_cell BC.out 7, HCS.out.2]; rfl)
                      go_wp2_with (first | (go_at_call_of 83 (Value.slice A5 x.f5.length c5); refine Calls.mono (H83.out A5 c5 x.f5 B5 d5 y.f5 _ (Kd.C_below G5.out HS.out) (Kd.C_below J5.out HS.out) (fun z hz => by have h1 := kid109e HSZ.out z hz; have h2 := HMQ.out; omega)) ?_; rintro e20 w20 ⟨rfl, hb⟩; have HS20 := Aside0.mk (below_step HS.out hb); have BK20 := Aside0.mk (blk_below BK.out hb); have BC20 := Aside0.mk (blk_below BC.out hb); clear hb; rw [b4]; have hx20_6 : w20.cell? ⟨gb, 6, none⟩ = some (.slice A6 x.f6.length c6) := (by rw [blk_cell BK20.out 6, HCS.out.1]; rfl); have hy20_6 : w20.cell? ⟨gc, 6, none⟩ = some (.slice B6 y.f6.length d6) := (by rw [blk_cell BC20.out 6, HCS.out.2]; rfl); have hx20_7 : w20.cell? ⟨gb, 7, none⟩ = some (.slice A7 x.f7.length c7) := (by rw [blk_cell BK20.out 7, HCS.out.1]; rfl); have hy20_7 : w20.cell? ⟨gc, 7, none⟩ = some (.slice B7 y.f7.length d7) := (by rw [blk_cell BC20.out 7, HCS.out.2]; rfl)) | (go_at_call_of 62 (Value.slice A6 x.f6.length c6); refine Calls.mono (HIQ.out A6 c6 x.f6 B6 d6 y.f6 _ (Kd.C_below G6.out HS20.out) (Kd.C_below J6.out HS20.out) (fun z hz => kid109a HSZ.out z hz)) ?_; rintro e21 w21 ⟨rfl, hb⟩; have HS21 := Aside0.mk (below_step HS20.out hb); have BK21 := Aside0.mk (blk_below BK20.out hb); have BC21 := Aside0.mk (blk_below BC20.out hb); clear hb; rw [b5]; have hx21_7 : w21.cell? ⟨gb, 7, none⟩ = some (.slice A7 x.f7.length c7) := (by rw [blk_cell BK21.out 7, HCS.out.1]; rfl); have hy21_7 : w21.cell? ⟨gc, 7, none⟩ = some (.slice B7 y.f7.length d7) := (by rw [blk_cell BC21.out 7, HCS.out.2]; rfl)) | (go_at_call_of 62 (Value.slice A7 x.f7.length c7); refine Calls.mono (HIQ.out A7 c7 x.f7 B7 d7 y.f7 _ (Kd.C_below G7.out HS21.out) (Kd.C_below J7.out HS21.out) (fun z hz => kid109b HSZ.out z hz)) ?_; rintro e22 w22 ⟨rfl, hb⟩; have HS22 := Aside0.mk (below_step HS21.out hb); have BK22 := Aside0.mk (blk_below BK21.out hb); have BC22 := Aside0.mk (blk_below BC21.out hb); clear hb; rw [b6]))
                      have HE3 := Aside0.mk (show false = r by have h := HE2.out; rw [hspec, Bool.false_and] at h; exact h)
                      obtain rfl := HE3.out
                      go_ret
                      exact ⟨rfl, (below_step HB.out HS22.out)⟩
                  · replace b5 : (eqf (sameS m q) x.f6 y.f6) = false := by simpa using b5
                    have hspec : sameS m n x y = false := by rw [sameS_at HQ.out]; simp [b0, b1, b2, b3, b4, b5]
                    have hxs_0 : w6.cell? ⟨gb, 0, none⟩ = some (.int .i64 x.f0) := (by rw [blk_cell BK.out 0, HCS.out.1]; rfl)
                    have hys_0 : w6.cell? ⟨gc, 0, none⟩ = some (.int .i64 y.f0) := (by rw [blk_cell BC.out 0, HCS.out.2]; rfl)
                    have hxs_2 : w6.cell? ⟨gb, 2, none⟩ = some (.string x.f2) := (by rw [blk_cell BK.out 2, HCS.out.1]; rfl)
                    have hys_2 : w6.cell? ⟨gc, 2, none⟩ = some (.string y.f2) := (by rw [blk_cell BC.out 2, HCS.out.2]; rfl)
                    have hxs_3 : w6.cell? ⟨gb, 3, none⟩ = some (.string x.f3) := (by rw [blk_cell BK.out 3, HCS.out.1]; rfl)
                    have hys_3 : w6.cell? ⟨gc, 3, none⟩ = some (.string y.f3) := (by rw [blk_cell BC.out 3, HCS.out.2]; rfl)
                    have hxs_4 : w6.cell? ⟨gb, 4, none⟩ = some (.int .i64 x.f4) := (by rw [blk_cell BK.out 4, HCS.out.1]; rfl)
                    have hys_4 : w6.cell? ⟨gc, 4, none⟩ = some (.int .i64 y.f4) := (by rw [blk_cell BC.out 4, HCS.out.2]; rfl)
                    have hxs_5 : w6.cell? ⟨gb, 5, none⟩ = some (.slice A5 x.f5.length c5) := (by rw [blk_cell BK.out 5, HCS.out.1]; rfl)
                    have hys_5 : w6.cell? ⟨gc, 5, none⟩ = some (.slice B5 y.f5.length d5) := (by rw [blk_cell BC.out 5, HCS.out.2]; rfl)
                    have hxs_6 : w6.cell? ⟨gb, 6, none⟩ = some (.slice A6 x.f6.length c6) := (by rw [blk_cell BK.out 6, HCS.out.1]; rfl)
                    have hys_6 : w6.cell? ⟨gc, 6, none⟩ = some (.slice B6 y.f6.length d6) := (by rw [blk_cell BC.out 6, HCS.out.2]; rfl)
                    have hxs_7 : w6.cell? ⟨gb, 7, none⟩ = some (.slice A7 x.f7.length c7) := (by rw [blk_cell BK.out 7, HCS.out.1]; rfl)
                    have hys_7 : w6.cell? ⟨gc, 7, none⟩ = some (.slice B7 y.f7.length d7) := (by rw [blk_cell BC.out 7, HCS.out.2]; rfl)
                    go_wp2_with (first | (go_at_call_of 83 (Value.slice A5 x.f5.length c5); refine Calls.mono (H83.out A5 c5 x.f5 B5 d5 y.f5 _ (Kd.C_below G5.out HS.out) (Kd.C_below J5.out HS.out) (fun z hz => by have h1 := kid109e HSZ.out z hz; have h2 := HMQ.out; omega)) ?_; rintro e20 w20 ⟨rfl, hb⟩; have HS20 := Aside0.mk (below_step HS.out hb); have BK20 := Aside0.mk (blk_below BK.out hb); have BC20 := Aside0.mk (blk_below BC.out hb); clear hb; rw [b4]; have hx20_6 : w20.cell? ⟨gb, 6, none⟩ = some (.slice A6 x.f6.length c6) := (by rw [blk_cell BK20.out 6, HCS.out.1]; rfl); have hy20_6 : w20.cell? ⟨gc, 6, none⟩ = some (.slice B6 y.f6.length d6) := (by rw [blk_cell BC20.out 6, HCS.out.2]; rfl); have hx20_7 : w20.cell? ⟨gb, 7, none⟩ = some (.slice A7 x.f7.length c7) := (by rw [blk_cell BK20.out 7, HCS.out.1]; rfl); have hy20_7 : w20.cell? ⟨gc, 7, none⟩ = some (.slice B7 y.f7.length d7) := (by rw [blk_cell BC20.out 7, HCS.out.2]; rfl)) | (go_at_call_of 62 (Value.slice A6 x.f6.length c6); refine Calls.mono (HIQ.out A6 c6 x.f6 B6 d6 y.f6 _ (Kd.C_below G6.out HS20.out) (Kd.C_below J6.out HS20.out) (fun z hz => kid109a HSZ.out z hz)) ?_; rintro e21 w21 ⟨rfl, hb⟩; have HS21 := Aside0.mk (below_step HS20.out hb); have BK21 := Aside0.mk (blk_below BK20.out hb); have BC21 := Aside0.mk (blk_below BC20.out hb); clear hb; rw [b5]; have hx21_7 : w21.cell? ⟨gb, 7, none⟩ = some (.slice A7 x.f7.length c7) := (by rw [blk_cell BK21.out 7, HCS.out.1]; rfl); have hy21_7 : w21.cell? ⟨gc, 7, none⟩ = some (.slice B7 y.f7.length d7) := (by rw [blk_cell BC21.out 7, HCS.out.2]; rfl)))
                    have HE3 := Aside0.mk (show false = r by have h := HE2.out; rw [hspec, Bool.false_and] at h; exact h)
                    obtain rfl := HE3.out
                    go_ret
                    exact ⟨rfl, (below_step HB.out HS21.out)⟩
                · replace b4 : (eqf (sameE m) x.f5 y.f5) = false := by simpa using b4
                  have hspec : sameS m n x y = false := by rw [sameS_at HQ.out]; simp [b0, b1, b2, b3, b4]
                  have hxs_0 : w6.cell? ⟨gb, 0, none⟩ = some (.int .i64 x.f0) := (by rw [blk_cell BK.out 0, HCS.out.1]; rfl)
                  have hys_0 : w6.cell? ⟨gc, 0, none⟩ = some (.int .i64 y.f0) := (by rw [blk_cell BC.out 0, HCS.out.2]; rfl)
                  have hxs_2 : w6.cell? ⟨gb, 2, none⟩ = some (.string x.f2) := (by rw [blk_cell BK.out 2, HCS.out.1]; rfl)
                  have hys_2 : w6.cell? ⟨gc, 2, none⟩ = some (.string y.f2) := (by rw [blk_cell BC.out 2, HCS.out.2]; rfl)
                  have hxs_3 : w6.cell? ⟨gb, 3, none⟩ = some (.string x.f3) := (by rw [blk_cell BK.out 3, HCS.out.1]; rfl)
                  have hys_3 : w6.cell? ⟨gc, 3, none⟩ = some (.string y.f3) := (by rw [blk_cell BC.out 3, HCS.out.2]; rfl)
                  have hxs_4 : w6.cell? ⟨gb, 4, none⟩ = some (.int .i64 x.f4) := (by rw [blk_cell BK.out 4, HCS.out.1]; rfl)
                  have hys_4 : w6.cell? ⟨gc, 4, none⟩ = some (.int .i64 y.f4) := (by rw [blk_cell BC.out 4, HCS.out.2]; rfl)
                  have hxs_5 : w6.cell? ⟨gb, 5, none⟩ = some (.slice A5 x.f5.length c5) := (by rw [blk_cell BK.out 5, HCS.out.1]; rfl)
                  have hys_5 : w6.cell? ⟨gc, 5, none⟩ = some (.slice B5 y.f5.length d5) := (by rw [blk_cell BC.out 5, HCS.out.2]; rfl)
                  have hxs_6 : w6.cell? ⟨gb, 6, none⟩ = some (.slice A6 x.f6.length c6) := (by rw [blk_cell BK.out 6, HCS.out.1]; rfl)
                  have hys_6 : w6.cell? ⟨gc, 6, none⟩ = some (.slice B6 y.f6.length d6) := (by rw [blk_cell BC.out 6, HCS.out.2]; rfl)
                  have hxs_7 : w6.cell? ⟨gb, 7, none⟩ = some (.slice A7 x.f7.length c7) := (by rw [blk_cell BK.out 7, HCS.out.1]; rfl)
                  have hys_7 : w6.cell? ⟨gc, 7, none⟩ = some (.slice B7 y.f7.length d7) := (by rw [blk_cell BC.out 7, HCS.out.2]; rfl)
                  go_wp2_with (first | (go_at_call_of 83 (Value.slice A5 x.f5.length c5); refine Calls.mono (H83.out A5 c5 x.f5 B5 d5 y.f5 _ (Kd.C_below G5.out HS.out) (Kd.C_below J5.out HS.out) (fun z hz => by have h1 := kid109e HSZ.out z hz; have h2 := HMQ.out; omega)) ?_; rintro e20 w20 ⟨rfl, hb⟩; have HS20 := Aside0.mk (below_step HS.out hb); have BK20 := Aside0.mk (blk_below BK.out hb); have BC20 := Aside0.mk (blk_below BC.out hb); clear hb; rw [b4]; have hx20_6 : w20.cell? ⟨gb, 6, none⟩ = some (.slice A6 x.f6.length c6) := (by rw [blk_cell BK20.out 6, HCS.out.1]; rfl); have hy20_6 : w20.cell? ⟨gc, 6, none⟩ = some (.slice B6 y.f6.length d6) := (by rw [blk_cell BC20.out 6, HCS.out.2]; rfl); have hx20_7 : w20.cell? ⟨gb, 7, none⟩ = some (.slice A7 x.f7.length c7) := (by rw [blk_cell BK20.out 7, HCS.out.1]; rfl); have hy20_7 : w20.cell? ⟨gc, 7, none⟩ = some (.slice B7 y.f7.length d7) := (by rw [blk_cell BC20.out 7, HCS.out.2]; rfl)))
                  have HE3 := Aside0.mk (show false = r by have h := HE2.out; rw [hspec, Bool.false_and] at h; exact h)
                  obtain rfl := HE3.out
                  go_ret
                  exact ⟨rfl, (below_step HB.out HS20.out)⟩
              · replace b3 : (x.f4 == y.f4) = false := by simpa using b3
                have n3 : (x.f4 != y.f4) = true := by simp only [bne, b3, Bool.not_false]
                have hspec : sameS m n x y = false := by rw [sameS_at HQ.out]; simp [b0, b1, b2, b3]
                have hxs_0 : w6.cell? ⟨gb, 0, none⟩ = some (.int .i64 x.f0) := (by rw [blk_cell BK.out 0, HCS.out.1]; rfl)
                have hys_0 : w6.cell? ⟨gc, 0, none⟩ = some (.int .i64 y.f0) := (by rw [blk_cell BC.out 0, HCS.out.2]; rfl)
                have hxs_2 : w6.cell? ⟨gb, 2, none⟩ = some (.string x.f2) := (by rw [blk_cell BK.out 2, HCS.out.1]; rfl)
                have hys_2 : w6.cell? ⟨gc, 2, none⟩ = some (.string y.f2) := (by rw [blk_cell BC.out 2, HCS.out.2]; rfl)
                have hxs_3 : w6.cell? ⟨gb, 3, none⟩ = some (.string x.f3) := (by rw [blk_cell BK.out 3, HCS.out.1]; rfl)
                have hys_3 : w6.cell? ⟨gc, 3, none⟩ = some (.string y.f3) := (by rw [blk_cell BC.out 3, HCS.out.2]; rfl)
                have hxs_4 : w6.cell? ⟨gb, 4, none⟩ = some (.int .i64 x.f4) := (by rw [blk_cell BK.out 4, HCS.out.1]; rfl)
                have hys_4 : w6.cell? ⟨gc, 4, none⟩ = some (.int .i64 y.f4) := (by rw [blk_cell BC.out 4, HCS.out.2]; rfl)
                have hxs_5 : w6.cell? ⟨gb, 5, none⟩ = some (.slice A5 x.f5.length c5) := (by rw [blk_cell BK.out 5, HCS.out.1]; rfl)
                have hys_5 : w6.cell? ⟨gc, 5, none⟩ = some (.slice B5 y.f5.length d5) := (by rw [blk_cell BC.out 5, HCS.out.2]; rfl)
                have hxs_6 : w6.cell? ⟨gb, 6, none⟩ = some (.slice A6 x.f6.length c6) := (by rw [blk_cell BK.out 6, HCS.out.1]; rfl)
                have hys_6 : w6.cell? ⟨gc, 6, none⟩ = some (.slice B6 y.f6.length d6) := (by rw [blk_cell BC.out 6, HCS.out.2]; rfl)
                have hxs_7 : w6.cell? ⟨gb, 7, none⟩ = some (.slice A7 x.f7.length c7) := (by rw [blk_cell BK.out 7, HCS.out.1]; rfl)
                have hys_7 : w6.cell? ⟨gc, 7, none⟩ = some (.slice B7 y.f7.length d7) := (by rw [blk_cell BC.out 7, HCS.out.2]; rfl)
                go_wp2_with (fail)
                have HE3 := Aside0.mk (show false = r by have h := HE2.out; rw [hspec, Bool.false_and] at h; exact h)
                obtain rfl := HE3.out
                go_ret
                exact ⟨rfl, (below_step HB.out HS.out)⟩
            · replace b2 : (x.f3.toList == y.f3.toList) = false := by simpa using b2
              have n2 : (x.f3.toList != y.f3.toList) = true := by simp only [bne, b2, Bool.not_false]
              have hspec : sameS m n x y = false := by rw [sameS_at HQ.out]; simp [b0, b1, b2]
              have hxs_0 : w6.cell? ⟨gb, 0, none⟩ = some (.int .i64 x.f0) := (by rw [blk_cell BK.out 0, HCS.out.1]; rfl)
              have hys_0 : w6.cell? ⟨gc, 0, none⟩ = some (.int .i64 y.f0) := (by rw [blk_cell BC.out 0, HCS.out.2]; rfl)
              have hxs_2 : w6.cell? ⟨gb, 2, none⟩ = some (.string x.f2) := (by rw [blk_cell BK.out 2, HCS.out.1]; rfl)
              have hys_2 : w6.cell? ⟨gc, 2, none⟩ = some (.string y.f2) := (by rw [blk_cell BC.out 2, HCS.out.2]; rfl)
              have hxs_3 : w6.cell? ⟨gb, 3, none⟩ = some (.string x.f3) := (by rw [blk_cell BK.out 3, HCS.out.1]; rfl)
              have hys_3 : w6.cell? ⟨gc, 3, none⟩ = some (.string y.f3) := (by rw [blk_cell BC.out 3, HCS.out.2]; rfl)
              have hxs_4 : w6.cell? ⟨gb, 4, none⟩ = some (.int .i64 x.f4) := (by rw [blk_cell BK.out 4, HCS.out.1]; rfl)
              have hys_4 : w6.cell? ⟨gc, 4, none⟩ = some (.int .i64 y.f4) := (by rw [blk_cell BC.out 4, HCS.out.2]; rfl)
              have hxs_5 : w6.cell? ⟨gb, 5, none⟩ = some (.slice A5 x.f5.length c5) := (by rw [blk_cell BK.out 5, HCS.out.1]; rfl)
              have hys_5 : w6.cell? ⟨gc, 5, none⟩ = some (.slice B5 y.f5.length d5) := (by rw [blk_cell BC.out 5, HCS.out.2]; rfl)
              have hxs_6 : w6.cell? ⟨gb, 6, none⟩ = some (.slice A6 x.f6.length c6) := (by rw [blk_cell BK.out 6, HCS.out.1]; rfl)
              have hys_6 : w6.cell? ⟨gc, 6, none⟩ = some (.slice B6 y.f6.length d6) := (by rw [blk_cell BC.out 6, HCS.out.2]; rfl)
              have hxs_7 : w6.cell? ⟨gb, 7, none⟩ = some (.slice A7 x.f7.length c7) := (by rw [blk_cell BK.out 7, HCS.out.1]; rfl)
              have hys_7 : w6.cell? ⟨gc, 7, none⟩ = some (.slice B7 y.f7.length d7) := (by rw [blk_cell BC.out 7, HCS.out.2]; rfl)
              go_wp2_with (fail)
              have HE3 := Aside0.mk (show false = r by have h := HE2.out; rw [hspec, Bool.false_and] at h; exact h)
              obtain rfl := HE3.out
              go_ret
              exact ⟨rfl, (below_step HB.out HS.out)⟩
          · replace b1 : (x.f2.toList == y.f2.toList) = false := by simpa using b1
            have n1 : (x.f2.toList != y.f2.toList) = true := by simp only [bne, b1, Bool.not_false]
            have hspec : sameS m n x y = false := by rw [sameS_at HQ.out]; simp [b0, b1]
            have hxs_0 : w6.cell? ⟨gb, 0, none⟩ = some (.int .i64 x.f0) := (by rw [blk_cell BK.out 0, HCS.out.1]; rfl)
            have hys_0 : w6.cell? ⟨gc, 0, none⟩ = some (.int .i64 y.f0) := (by rw [blk_cell BC.out 0, HCS.out.2]; rfl)
            have hxs_2 : w6.cell? ⟨gb, 2, none⟩ = some (.string x.f2) := (by rw [blk_cell BK.out 2, HCS.out.1]; rfl)
            have hys_2 : w6.cell? ⟨gc, 2, none⟩ = some (.string y.f2) := (by rw [blk_cell BC.out 2, HCS.out.2]; rfl)
            have hxs_3 : w6.cell? ⟨gb, 3, none⟩ = some (.string x.f3) := (by rw [blk_cell BK.out 3, HCS.out.1]; rfl)
            have hys_3 : w6.cell? ⟨gc, 3, none⟩ = some (.string y.f3) := (by rw [blk_cell BC.out 3, HCS.out.2]; rfl)
            have hxs_4 : w6.cell? ⟨gb, 4, none⟩ = some (.int .i64 x.f4) := (by rw [blk_cell BK.out 4, HCS.out.1]; rfl)
            have hys_4 : w6.cell? ⟨gc, 4, none⟩ = some (.int .i64 y.f4) := (by rw [blk_cell BC.out 4, HCS.out.2]; rfl)
            have hxs_5 : w6.cell? ⟨gb, 5, none⟩ = some (.slice A5 x.f5.length c5) := (by rw [blk_cell BK.out 5, HCS.out.1]; rfl)
            have hys_5 : w6.cell? ⟨gc, 5, none⟩ = some (.slice B5 y.f5.length d5) := (by rw [blk_cell BC.out 5, HCS.out.2]; rfl)
            have hxs_6 : w6.cell? ⟨gb, 6, none⟩ = some (.slice A6 x.f6.length c6) := (by rw [blk_cell BK.out 6, HCS.out.1]; rfl)
            have hys_6 : w6.cell? ⟨gc, 6, none⟩ = some (.slice B6 y.f6.length d6) := (by rw [blk_cell BC.out 6, HCS.out.2]; rfl)
            have hxs_7 : w6.cell? ⟨gb, 7, none⟩ = some (.slice A7 x.f7.length c7) := (by rw [blk_cell BK.out 7, HCS.out.1]; rfl)
            have hys_7 : w6.cell? ⟨gc, 7, none⟩ = some (.slice B7 y.f7.length d7) := (by rw [blk_cell BC.out 7, HCS.out.2]; rfl)
            go_wp2_with (fail)
            have HE3 := Aside0.mk (show false = r by have h := HE2.out; rw [hspec, Bool.false_and] at h; exact h)
            obtain rfl := HE3.out
            go_ret
            exact ⟨rfl, (below_step HB.out HS.out)⟩
        · replace b0 : (x.f0 == y.f0) = false := by simpa using b0
          have n0 : (x.f0 != y.f0) = true := by simp only [bne, b0, Bool.not_false]
          have hspec : sameS m n x y = false := by rw [sameS_at HQ.out]; simp [b0]
          have hxs_0 : w6.cell? ⟨gb, 0, none⟩ = some (.int .i64 x.f0) := (by rw [blk_cell BK.out 0, HCS.out.1]; rfl)
          have hys_0 : w6.cell? ⟨gc, 0, none⟩ = some (.int .i64 y.f0) := (by rw [blk_cell BC.out 0, HCS.out.2]; rfl)
          have hxs_2 : w6.cell? ⟨gb, 2, none⟩ = some (.string x.f2) := (by rw [blk_cell BK.out 2, HCS.out.1]; rfl)
          have hys_2 : w6.cell? ⟨gc, 2, none⟩ = some (.string y.f2) := (by rw [blk_cell BC.out 2, HCS.out.2]; rfl)
          have hxs_3 : w6.cell? ⟨gb, 3, none⟩ = some (.string x.f3) := (by rw [blk_cell BK.out 3, HCS.out.1]; rfl)
          have hys_3 : w6.cell? ⟨gc, 3, none⟩ = some (.string y.f3) := (by rw [blk_cell BC.out 3, HCS.out.2]; rfl)
          have hxs_4 : w6.cell? ⟨gb, 4, none⟩ = some (.int .i64 x.f4) := (by rw [blk_cell BK.out 4, HCS.out.1]; rfl)
          have hys_4 : w6.cell? ⟨gc, 4, none⟩ = some (.int .i64 y.f4) := (by rw [blk_cell BC.out 4, HCS.out.2]; rfl)
          have hxs_5 : w6.cell? ⟨gb, 5, none⟩ = some (.slice A5 x.f5.length c5) := (by rw [blk_cell BK.out 5, HCS.out.1]; rfl)
          have hys_5 : w6.cell? ⟨gc, 5, none⟩ = some (.slice B5 y.f5.length d5) := (by rw [blk_cell BC.out 5, HCS.out.2]; rfl)
          have hxs_6 : w6.cell? ⟨gb, 6, none⟩ = some (.slice A6 x.f6.length c6) := (by rw [blk_cell BK.out 6, HCS.out.1]; rfl)
          have hys_6 : w6.cell? ⟨gc, 6, none⟩ = some (.slice B6 y.f6.length d6) := (by rw [blk_cell BC.out 6, HCS.out.2]; rfl)
          have hxs_7 : w6.cell? ⟨gb, 7, none⟩ = some (.slice A7 x.f7.length c7) := (by rw [blk_cell BK.out 7, HCS.out.1]; rfl)
          have hys_7 : w6.cell? ⟨gc, 7, none⟩ = some (.slice B7 y.f7.length d7) := (by rw [blk_cell BC.out 7, HCS.out.2]; rfl)
          go_wp2_with (fail)
          have HE3 := Aside0.mk (show false = r by have h := HE2.out; rw [hspec, Bool.false_and] at h; exact h)
          obtain rfl := HE3.out
          go_ret
          exact ⟨rfl, (below_step HB.out HS.out)⟩
      · have hke : k = l0.length := by omega
        subst hke
        have HE3 := Aside0.mk (show true = r by rw [← HE.out, eqf_end (sameS m n) l0 l1 HL.out])
        obtain rfl := HE3.out
        clear HE hlt hk
        go_wp2
        go_ret
        exact ⟨rfl, HB.out⟩
  · have c1b : ((l0.length : Int) != (l1.length : Int)) = true := bne_iff_ne.mpr c1
    have c1c : ((l0.length : Int) == (l1.length : Int)) = false := beq_eq_false_iff_ne.mpr c1
    have HE3 := Aside0.mk (show false = r by rw [← HR.out, eqf_len (sameS m n) l0 l1 (by omega)])
    obtain rfl := HE3.out
    clear HR
    go_enter Try.func62, Try.ntmps62
    go_wp2
    go_ret
    exact ⟨rfl, HB.out⟩
theorem same62 (m : Nat) : ∀ n, n ≤ m → SameL109 62 m n
  | 0, h => wrap62 m 0 (same83 m) (fun q hq => by omega) h
  | n + 1, h => wrap62 m (n + 1) (same83 m) (fun q hq => by
    obtain rfl : n = q := by omega
    exact same62 m n (by omega)) h

end Go.Proofs.Ytblgcodkbapccaa.SamesWalk
