/- PROVED: the law ParseSames, walked: it returns true. Conditions: each list inside takes fewer bytes than the reach. -/
import Derived.Test.YtblgcodkbapccaaSamesParse
import Derived.Test.YtblgcodkbapccaaSamesRefP
import Derived.Test.YtblgcodkbapccaaSamesPlainP
import Derived.Test.YtblgcodkbapccaaSamesCopyP
namespace Go.Proofs.Ytblgcodkbapccaa.SamesWalk
open Go.RowKit Go.Proofs.Ytblgcodkbapccaa.PParseSames Go.Proofs.YtblgcodkbapccaaW.PrintWords Go.Proofs.YtblgcodkbapccaaW.PrintLast Go.Proofs.YtblgcodkbapccaaW.PrintMore
attribute [local go_sem] max2_int min2_int max_two min_two max_three min_three max_four min_four
set_option linter.unusedVariables false
set_option linter.unusedSimpArgs false

def ProgOk (N : Nat) (rs : List S76) (fs : List S83) : Prop := rs.length * 64 ≤ 140737488355328 ∧ fs.length * 104 ≤ 140737488355328 ∧ (∀ x ∈ rs, x.f3.length * 48 ≤ 140737488355328) ∧
  ∀ x ∈ fs, x.f3.length * 48 ≤ 140737488355328 ∧ x.f4.length * 144 ≤ 140737488355328 ∧ (∀ z ∈ x.f4, FitS z) ∧ ∀ z ∈ x.f4, SizeOf.sizeOf z ≤ N
/-- A row of records, of functions: a store into a block of another type. -/
theorem far76 {w w1 : World} {base : Nat} {v : Value} {xs : List S76} {g : Nat} {cells : Array Value} (h : Kd.R k76 76 w base (fun _ => True) v xs) (hb : w.heap[g]? = some (.cells cells 38 (0, 0))) (ho : ∀ k, k ≠ g → w1.heap[k]? = w.heap[k]?) : Kd.R k76 76 w1 base (fun _ => True) v xs :=
  Kd.R_mono (Kd.R_step (Kd.R_types h hb (by intro q hq; simp [k76, Kd.iso, Kd.pair, Kd.int, Kd.string, Kd.scalar, Kd.slice, k80] at hq; omega)) (fun k hk _ => ho k hk.2)) (fun _ _ => trivial)
theorem far83 {w w1 : World} {base : Nat} {v : Value} {xs : List S83} {g : Nat} {cells : Array Value} (h : Kd.R k83 83 w base (fun _ => True) v xs) (hb : w.heap[g]? = some (.cells cells 38 (0, 0))) (ho : ∀ k, k ≠ g → w1.heap[k]? = w.heap[k]?) : Kd.R k83 83 w1 base (fun _ => True) v xs :=
  Kd.R_mono (Kd.R_step (Kd.R_types h hb (by intro q hq; simp [k83, k109, Kd.fix, Kd.iso, Kd.pair, Kd.int, Kd.string, Kd.scalar, Kd.slice, k80] at hq; omega)) (fun k hk _ => ho k hk.2)) (fun _ _ => trivial)

set_option maxHeartbeats 8000000 in
set_option maxRecDepth 100000 in
theorem law6 (N : Nat) (A0 : Option Addr) (c0 : Nat) (rs : List S76) (A1 : Option Addr) (c1 : Nat) (fs : List S83) (B0 : Option Addr) (d0 : Nat) (rs' : List S76) (B1 : Option Addr) (d1 : Nat) (fs' : List S83) (w : World)
    (hr : Kd.C k76 w A0 rs.length rs) (hf : Kd.C k83 w A1 fs.length fs) (hr' : Kd.C k76 w B0 rs'.length rs') (hf' : Kd.C k83 w B1 fs'.length fs') (ho : ProgOk N rs fs) (ho' : ProgOk N rs' fs') :
    Calls Try.prog 6 #[.agg #[.slice A0 rs.length c0, .slice A1 fs.length c1], .agg #[.slice B0 rs'.length d0, .slice B1 fs'.length d1]] w fun e w' => e = .returned (.bool true) ∧ Below w.heap.size w w' := by
  have HA0 := Aside0.mk hr
  have HA1 := Aside0.mk hf
  have HB0 := Aside0.mk hr'
  have HB1 := Aside0.mk hf'
  have HO := Aside0.mk ho
  have HO' := Aside0.mk ho'
  clear hr hf hr' hf' ho ho'
  have hz := zv38
  go_enter Try.func6, Try.ntmps6
  go_upto_region 1 with (first | ((with_reducible refine gate_dst (N := 2) rfl ?_); refine box_event ?hg (N := 2) ?hd (cs := #[.slice A0 rs.length c0, .slice A1 fs.length c1]) (t := 38) ?hr ?_; (case hd => rfl); (case hg => rfl); (case hr => first | (go_simp; done) | (go_simp; rfl)); intro ga hga w1 hbox hb; have BA1 := Aside0.mk hbox; have HS1 := Aside0.mk hb; clear hb hbox hga) | ((with_reducible refine gate_dst (N := 3) rfl ?_); refine box_event ?hg (N := 3) ?hd (cs := #[.slice B0 rs'.length d0, .slice B1 fs'.length d1]) (t := 38) ?hr ?_; (case hd => rfl); (case hg => rfl); (case hr => first | (go_simp; done) | (go_simp; rfl)); intro gb hgb wB hbox hb; have BB := Aside0.mk hbox; have BA := Aside0.mk (blk_below BA1.out hb); have HW := Aside0.mk (below_step HS1.out hb); clear hb hbox hgb))
  (try simp only [Act.put, List.setIfInBounds_toArray, List.set_cons_zero, List.set_cons_succ])
  have HC1 := Aside0.mk (fun (W : World) (h : Below wB.heap.size wB W) => program28 N A0 c0 rs A1 c1 fs W (Kd.C_below (Kd.C_below HA0.out HW.out) h) (Kd.C_below (Kd.C_below HA1.out HW.out) h) HO.out.1 HO.out.2.1 HO.out.2.2.1 HO.out.2.2.2)
  have HC2 := Aside0.mk (fun (W : World) (h : Below wB.heap.size wB W) => program28 N B0 d0 rs' B1 d1 fs' W (Kd.C_below (Kd.C_below HB0.out HW.out) h) (Kd.C_below (Kd.C_below HB1.out HW.out) h) HO'.out.1 HO'.out.2.1 HO'.out.2.2.1 HO'.out.2.2.2)
  refine start_ (n := 8) (S := fun w' => Below wB.heap.size wB w') (ds := []) #[false, false, false, false, false, false, false, false] (by kernel_rfl) rfl rfl (below_drew1 (Below.refl wB.heap.size wB)) (fun hHeld => ?_)
  generalize wB.drew = w5 at hHeld ⊢
  refine take_ (i := 0) (N := some 7) (v := .agg [.slice A0 rs.length c0, .slice A1 fs.length c1].toArray) (a' := ?_) #[true, false, false, false, false, false, false, false] rfl rfl (by kernel_rfl) (fun _ _ _ h => h) (Or.inl ⟨by rfl, fun w' hS => exec_load (P := Try.prog) (ty := 38) (x := .tmp 2) rfl (show (Instr.loadAt 38 (.pointer (some (⟨ga, 0, none⟩)))).run Try.prog w' = _ from load_run (row_below hS (blk_row BA.out)) Try.underlying38 rfl size38 rfl)⟩) hHeld ?_ ?_
  rotate_left
  · simp only [Act.put, List.setIfInBounds_toArray, List.set_cons_zero, List.set_cons_succ, i64_w, i32_w]
    rfl
  refine take_ (i := 2) (N := some 9) (v := .agg [.slice B0 rs'.length d0, .slice B1 fs'.length d1].toArray) (a' := ?_) #[true, false, true, false, false, false, false, false] rfl rfl (by kernel_rfl) (fun _ _ _ h => h) (Or.inl ⟨by rfl, fun w' hS => exec_load (P := Try.prog) (ty := 38) (x := .tmp 3) rfl (show (Instr.loadAt 38 (.pointer (some (⟨gb, 0, none⟩)))).run Try.prog w' = _ from load_run (row_below hS (blk_row BB.out)) Try.underlying38 rfl size38 rfl)⟩) hHeld ?_ ?_
  rotate_left
  · simp only [Act.put, List.setIfInBounds_toArray, List.set_cons_zero, List.set_cons_succ, i64_w, i32_w]
    rfl
  refine join_ 2 #[true, true, true, true, true, true, false, false] (fun s : Value × Value × Nat × Nat => [(8, s.1), (10, s.2.1), (5, .pointer (some ⟨s.2.2.1, 0, none⟩)), (6, .pointer (some ⟨s.2.2.2, 0, none⟩))]) (fun s w' => (∃ P0 p0 P1 p1, s.1 = .agg #[.slice P0 rs.length p0, .slice P1 fs.length p1] ∧ Kd.R k76 76 w' wB.heap.size (fun _ => True) (.slice P0 rs.length p0) rs ∧ Kd.R k83 83 w' wB.heap.size (fun _ => True) (.slice P1 fs.length p1) fs) ∧ (∃ Q0 q0 Q1 q1, s.2.1 = .agg #[.slice Q0 rs'.length q0, .slice Q1 fs'.length q1] ∧ Kd.R k76 76 w' wB.heap.size (fun _ => True) (.slice Q0 rs'.length q0) rs' ∧ Kd.R k83 83 w' wB.heap.size (fun _ => True) (.slice Q1 fs'.length q1) fs') ∧ w'.heap[s.2.2.1]? = some (.cells z_38.toArray 38 (0, 0)) ∧ w'.heap[s.2.2.2]? = some (.cells z_38.toArray 38 (0, 0)) ∧ s.2.2.1 ≠ s.2.2.2 ∧ wB.heap.size ≤ s.2.2.1 ∧ wB.heap.size ≤ s.2.2.2 ∧ Below wB.heap.size wB w') ?_ (fun hcont0 => ?_)
  rotate_left
  · have hcont := fun v8 v10 g5 g6 w' F => hcont0 (v8, v10, g5, g6) w' F
    simp only [putAll, Act.put, List.setIfInBounds_toArray, List.set_cons_zero, List.set_cons_succ] at hcont
    clear hcont0
    have HS := Aside0.mk hHeld
    clear hHeld
    refine three_ (i := 1) (j := 4) (k := 5) (Ni := some 8) (Nj := some 5) (Nk := some 6) #[true, true, true, false, false, false, false, false] #[true, false, true, false, true, false, false, false] #[true, false, true, false, false, true, false, false] rfl rfl rfl rfl rfl rfl (by kernel_rfl) (by decide) (by decide) (by decide) (fun K hK => ?_) (fun K hK => ?_) (fun K hK => ?_)
    · refine goes_ Try.func28 (by kernel_rfl) rfl #[.agg #[.slice A0 rs.length c0, .slice A1 fs.length c1]] (by rfl) rfl rfl (by (try simp only [List.map_toArray, List.map_cons, List.map_nil]); first | done | rfl) ?_
      refine Calls.mono (HC1.out _ HS.out) ?_
      rintro e w101 ⟨P0, p0, P1, p1, rfl, hr0, hr1, hb⟩
      refine ⟨_, rfl, ?_⟩
      have H8 := Aside0.mk (And.intro (Kd.R_lower hr0 (below_size HS.out)) (Kd.R_lower hr1 (below_size HS.out)))
      clear hr0 hr1
      have HS := Aside0.mk (below_step HS.out hb)
      refine hK.out _ _ HS.out (fun _ => ?_)
      clear hK K hb
      refine norm_ (a' := ?_) ?_ ?_
      rotate_left
      · show Act.put _ (some 8) _ = _
        simp only [Act.put, List.setIfInBounds_toArray, List.set_cons_zero, List.set_cons_succ, i64_w, i32_w]
        rfl
      refine three_ (i := 3) (j := 4) (k := 5) (Ni := some 10) (Nj := some 5) (Nk := some 6) #[true, true, true, true, false, false, false, false] #[true, true, true, false, true, false, false, false] #[true, true, true, false, false, true, false, false] rfl rfl rfl rfl rfl rfl (by kernel_rfl) (by decide) (by decide) (by decide) (fun K hK => ?_) (fun K hK => ?_) (fun K hK => ?_)
      · refine goes_ Try.func28 (by kernel_rfl) rfl #[.agg #[.slice B0 rs'.length d0, .slice B1 fs'.length d1]] (by rfl) rfl rfl (by (try simp only [List.map_toArray, List.map_cons, List.map_nil]); first | done | rfl) ?_
        refine Calls.mono (HC2.out _ HS.out) ?_
        rintro e w102 ⟨Q0, q0, Q1, q1, rfl, hr0, hr1, hb⟩
        refine ⟨_, rfl, ?_⟩
        have H10 := Aside0.mk (And.intro (Kd.R_lower hr0 (below_size HS.out)) (Kd.R_lower hr1 (below_size HS.out)))
        clear hr0 hr1
        have H8 := Aside0.mk (And.intro (Kd.R_below H8.out.1 hb) (Kd.R_below H8.out.2 hb))
        have HS := Aside0.mk (below_step HS.out hb)
        refine hK.out _ _ HS.out (fun _ => ?_)
        clear hK K hb
        refine norm_ (a' := ?_) ?_ ?_
        rotate_left
        · show Act.put _ (some 10) _ = _
          simp only [Act.put, List.setIfInBounds_toArray, List.set_cons_zero, List.set_cons_succ, i64_w, i32_w]
          rfl
        refine two_ (i := 4) (j := 5) (Ni := some 5) (Nj := some 6) #[true, true, true, true, true, false, false, false] #[true, true, true, true, false, true, false, false] rfl rfl rfl rfl (by kernel_rfl) (by decide) (by decide) (fun K hK => ?_) (fun K hK => ?_)
        · refine box_step (by rfl) (N := 5) rfl (cs := z_38.toArray) (t := 38) ?hr ?_
          case hr => first | (go_simp; done) | (go_simp; rfl)
          intro g5 hg w103 hbox hb
          have HG5 := Aside0.mk (show wB.heap.size ≤ g5 by rw [hg]; exact below_size HS.out)
          have K5 := Aside0.mk hbox
          clear hbox hg
          have H8 := Aside0.mk (And.intro (Kd.R_below H8.out.1 hb) (Kd.R_below H8.out.2 hb))
          have H10 := Aside0.mk (And.intro (Kd.R_below H10.out.1 hb) (Kd.R_below H10.out.2 hb))
          have HS := Aside0.mk (below_step HS.out hb)
          refine hK.out _ _ HS.out (fun _ => ?_)
          clear hK K hb
          refine norm_ (a' := ?_) ?_ ?_
          rotate_left
          · show Act.put _ (some 5) _ = _
            simp only [Act.put, List.setIfInBounds_toArray, List.set_cons_zero, List.set_cons_succ, i64_w, i32_w]
            rfl
          refine one_ (i := 5) (N := some 6) #[true, true, true, true, true, true, false, false] rfl rfl (by kernel_rfl) (by decide) (fun K hK => ?_)
          refine box_step (by rfl) (N := 6) rfl (cs := z_38.toArray) (t := 38) ?hr ?_
          case hr => first | (go_simp; done) | (go_simp; rfl)
          intro g6 hg w104 hbox hb
          have HG6 := Aside0.mk (show wB.heap.size ≤ g6 by rw [hg]; exact below_size HS.out)
          have HNE := Aside0.mk (show g5 ≠ g6 by rw [hg]; exact Nat.ne_of_lt (blk_lt K5.out))
          have K6 := Aside0.mk hbox
          clear hbox hg
          have H8 := Aside0.mk (And.intro (Kd.R_below H8.out.1 hb) (Kd.R_below H8.out.2 hb))
          have H10 := Aside0.mk (And.intro (Kd.R_below H10.out.1 hb) (Kd.R_below H10.out.2 hb))
          have K5 := Aside0.mk (blk_below K5.out hb)
          have HS := Aside0.mk (below_step HS.out hb)
          refine hK.out _ _ HS.out (fun _ => ?_)
          clear hK K hb
          refine norm_ (a' := ?_) ?_ ?_
          rotate_left
          · show Act.put _ (some 6) _ = _
            simp only [Act.put, List.setIfInBounds_toArray, List.set_cons_zero, List.set_cons_succ, i64_w, i32_w]
            rfl
          exact hcont (.agg #[.slice P0 rs.length p0, .slice P1 fs.length p1]) (.agg #[.slice Q0 rs'.length q0, .slice Q1 fs'.length q1]) g5 g6 _ ⟨⟨P0, p0, P1, p1, rfl, H8.out.1, H8.out.2⟩, ⟨Q0, q0, Q1, q1, rfl, H10.out.1, H10.out.2⟩, K5.out, K6.out, HNE.out, HG5.out, HG6.out, HS.out⟩
        · refine box_step (by rfl) (N := 6) rfl (cs := z_38.toArray) (t := 38) ?hr ?_
          case hr => first | (go_simp; done) | (go_simp; rfl)
          intro g6 hg w105 hbox hb
          have HG6 := Aside0.mk (show wB.heap.size ≤ g6 by rw [hg]; exact below_size HS.out)
          have K6 := Aside0.mk hbox
          clear hbox hg
          have H8 := Aside0.mk (And.intro (Kd.R_below H8.out.1 hb) (Kd.R_below H8.out.2 hb))
          have H10 := Aside0.mk (And.intro (Kd.R_below H10.out.1 hb) (Kd.R_below H10.out.2 hb))
          have HS := Aside0.mk (below_step HS.out hb)
          refine hK.out _ _ HS.out (fun _ => ?_)
          clear hK K hb
          refine norm_ (a' := ?_) ?_ ?_
          rotate_left
          · show Act.put _ (some 6) _ = _
            simp only [Act.put, List.setIfInBounds_toArray, List.set_cons_zero, List.set_cons_succ, i64_w, i32_w]
            rfl
          refine one_ (i := 4) (N := some 5) #[true, true, true, true, true, true, false, false] rfl rfl (by kernel_rfl) (by decide) (fun K hK => ?_)
          refine box_step (by rfl) (N := 5) rfl (cs := z_38.toArray) (t := 38) ?hr ?_
          case hr => first | (go_simp; done) | (go_simp; rfl)
          intro g5 hg w106 hbox hb
          have HG5 := Aside0.mk (show wB.heap.size ≤ g5 by rw [hg]; exact below_size HS.out)
          have HNE := Aside0.mk (show g5 ≠ g6 by rw [hg]; exact Nat.ne_of_gt (blk_lt K6.out))
          have K5 := Aside0.mk hbox
          clear hbox hg
          have H8 := Aside0.mk (And.intro (Kd.R_below H8.out.1 hb) (Kd.R_below H8.out.2 hb))
          have H10 := Aside0.mk (And.intro (Kd.R_below H10.out.1 hb) (Kd.R_below H10.out.2 hb))
          have K6 := Aside0.mk (blk_below K6.out hb)
          have HS := Aside0.mk (below_step HS.out hb)
          refine hK.out _ _ HS.out (fun _ => ?_)
          clear hK K hb
          refine norm_ (a' := ?_) ?_ ?_
          rotate_left
          · show Act.put _ (some 5) _ = _
            simp only [Act.put, List.setIfInBounds_toArray, List.set_cons_zero, List.set_cons_succ, i64_w, i32_w]
            rfl
          exact hcont (.agg #[.slice P0 rs.length p0, .slice P1 fs.length p1]) (.agg #[.slice Q0 rs'.length q0, .slice Q1 fs'.length q1]) g5 g6 _ ⟨⟨P0, p0, P1, p1, rfl, H8.out.1, H8.out.2⟩, ⟨Q0, q0, Q1, q1, rfl, H10.out.1, H10.out.2⟩, K5.out, K6.out, HNE.out, HG5.out, HG6.out, HS.out⟩
      · refine box_step (by rfl) (N := 5) rfl (cs := z_38.toArray) (t := 38) ?hr ?_
        case hr => first | (go_simp; done) | (go_simp; rfl)
        intro g5 hg w107 hbox hb
        have HG5 := Aside0.mk (show wB.heap.size ≤ g5 by rw [hg]; exact below_size HS.out)
        have K5 := Aside0.mk hbox
        clear hbox hg
        have H8 := Aside0.mk (And.intro (Kd.R_below H8.out.1 hb) (Kd.R_below H8.out.2 hb))
        have HS := Aside0.mk (below_step HS.out hb)
        refine hK.out _ _ HS.out (fun _ => ?_)
        clear hK K hb
        refine norm_ (a' := ?_) ?_ ?_
        rotate_left
        · show Act.put _ (some 5) _ = _
          simp only [Act.put, List.setIfInBounds_toArray, List.set_cons_zero, List.set_cons_succ, i64_w, i32_w]
          rfl
        refine two_ (i := 3) (j := 5) (Ni := some 10) (Nj := some 6) #[true, true, true, true, true, false, false, false] #[true, true, true, false, true, true, false, false] rfl rfl rfl rfl (by kernel_rfl) (by decide) (by decide) (fun K hK => ?_) (fun K hK => ?_)
        · refine goes_ Try.func28 (by kernel_rfl) rfl #[.agg #[.slice B0 rs'.length d0, .slice B1 fs'.length d1]] (by rfl) rfl rfl (by (try simp only [List.map_toArray, List.map_cons, List.map_nil]); first | done | rfl) ?_
          refine Calls.mono (HC2.out _ HS.out) ?_
          rintro e w108 ⟨Q0, q0, Q1, q1, rfl, hr0, hr1, hb⟩
          refine ⟨_, rfl, ?_⟩
          have H10 := Aside0.mk (And.intro (Kd.R_lower hr0 (below_size HS.out)) (Kd.R_lower hr1 (below_size HS.out)))
          clear hr0 hr1
          have H8 := Aside0.mk (And.intro (Kd.R_below H8.out.1 hb) (Kd.R_below H8.out.2 hb))
          have K5 := Aside0.mk (blk_below K5.out hb)
          have HS := Aside0.mk (below_step HS.out hb)
          refine hK.out _ _ HS.out (fun _ => ?_)
          clear hK K hb
          refine norm_ (a' := ?_) ?_ ?_
          rotate_left
          · show Act.put _ (some 10) _ = _
            simp only [Act.put, List.setIfInBounds_toArray, List.set_cons_zero, List.set_cons_succ, i64_w, i32_w]
            rfl
          refine one_ (i := 5) (N := some 6) #[true, true, true, true, true, true, false, false] rfl rfl (by kernel_rfl) (by decide) (fun K hK => ?_)
          refine box_step (by rfl) (N := 6) rfl (cs := z_38.toArray) (t := 38) ?hr ?_
          case hr => first | (go_simp; done) | (go_simp; rfl)
          intro g6 hg w109 hbox hb
          have HG6 := Aside0.mk (show wB.heap.size ≤ g6 by rw [hg]; exact below_size HS.out)
          have HNE := Aside0.mk (show g5 ≠ g6 by rw [hg]; exact Nat.ne_of_lt (blk_lt K5.out))
          have K6 := Aside0.mk hbox
          clear hbox hg
          have H8 := Aside0.mk (And.intro (Kd.R_below H8.out.1 hb) (Kd.R_below H8.out.2 hb))
          have H10 := Aside0.mk (And.intro (Kd.R_below H10.out.1 hb) (Kd.R_below H10.out.2 hb))
          have K5 := Aside0.mk (blk_below K5.out hb)
          have HS := Aside0.mk (below_step HS.out hb)
          refine hK.out _ _ HS.out (fun _ => ?_)
          clear hK K hb
          refine norm_ (a' := ?_) ?_ ?_
          rotate_left
          · show Act.put _ (some 6) _ = _
            simp only [Act.put, List.setIfInBounds_toArray, List.set_cons_zero, List.set_cons_succ, i64_w, i32_w]
            rfl
          exact hcont (.agg #[.slice P0 rs.length p0, .slice P1 fs.length p1]) (.agg #[.slice Q0 rs'.length q0, .slice Q1 fs'.length q1]) g5 g6 _ ⟨⟨P0, p0, P1, p1, rfl, H8.out.1, H8.out.2⟩, ⟨Q0, q0, Q1, q1, rfl, H10.out.1, H10.out.2⟩, K5.out, K6.out, HNE.out, HG5.out, HG6.out, HS.out⟩
        · refine box_step (by rfl) (N := 6) rfl (cs := z_38.toArray) (t := 38) ?hr ?_
          case hr => first | (go_simp; done) | (go_simp; rfl)
          intro g6 hg w110 hbox hb
          have HG6 := Aside0.mk (show wB.heap.size ≤ g6 by rw [hg]; exact below_size HS.out)
          have HNE := Aside0.mk (show g5 ≠ g6 by rw [hg]; exact Nat.ne_of_lt (blk_lt K5.out))
          have K6 := Aside0.mk hbox
          clear hbox hg
          have H8 := Aside0.mk (And.intro (Kd.R_below H8.out.1 hb) (Kd.R_below H8.out.2 hb))
          have K5 := Aside0.mk (blk_below K5.out hb)
          have HS := Aside0.mk (below_step HS.out hb)
          refine hK.out _ _ HS.out (fun _ => ?_)
          clear hK K hb
          refine norm_ (a' := ?_) ?_ ?_
          rotate_left
          · show Act.put _ (some 6) _ = _
            simp only [Act.put, List.setIfInBounds_toArray, List.set_cons_zero, List.set_cons_succ, i64_w, i32_w]
            rfl
          refine one_ (i := 3) (N := some 10) #[true, true, true, true, true, true, false, false] rfl rfl (by kernel_rfl) (by decide) (fun K hK => ?_)
          refine goes_ Try.func28 (by kernel_rfl) rfl #[.agg #[.slice B0 rs'.length d0, .slice B1 fs'.length d1]] (by rfl) rfl rfl (by (try simp only [List.map_toArray, List.map_cons, List.map_nil]); first | done | rfl) ?_
          refine Calls.mono (HC2.out _ HS.out) ?_
          rintro e w111 ⟨Q0, q0, Q1, q1, rfl, hr0, hr1, hb⟩
          refine ⟨_, rfl, ?_⟩
          have H10 := Aside0.mk (And.intro (Kd.R_lower hr0 (below_size HS.out)) (Kd.R_lower hr1 (below_size HS.out)))
          clear hr0 hr1
          have H8 := Aside0.mk (And.intro (Kd.R_below H8.out.1 hb) (Kd.R_below H8.out.2 hb))
          have K5 := Aside0.mk (blk_below K5.out hb)
          have K6 := Aside0.mk (blk_below K6.out hb)
          have HS := Aside0.mk (below_step HS.out hb)
          refine hK.out _ _ HS.out (fun _ => ?_)
          clear hK K hb
          refine norm_ (a' := ?_) ?_ ?_
          rotate_left
          · show Act.put _ (some 10) _ = _
            simp only [Act.put, List.setIfInBounds_toArray, List.set_cons_zero, List.set_cons_succ, i64_w, i32_w]
            rfl
          exact hcont (.agg #[.slice P0 rs.length p0, .slice P1 fs.length p1]) (.agg #[.slice Q0 rs'.length q0, .slice Q1 fs'.length q1]) g5 g6 _ ⟨⟨P0, p0, P1, p1, rfl, H8.out.1, H8.out.2⟩, ⟨Q0, q0, Q1, q1, rfl, H10.out.1, H10.out.2⟩, K5.out, K6.out, HNE.out, HG5.out, HG6.out, HS.out⟩
      · refine box_step (by rfl) (N := 6) rfl (cs := z_38.toArray) (t := 38) ?hr ?_
        case hr => first | (go_simp; done) | (go_simp; rfl)
        intro g6 hg w112 hbox hb
        have HG6 := Aside0.mk (show wB.heap.size ≤ g6 by rw [hg]; exact below_size HS.out)
        have K6 := Aside0.mk hbox
        clear hbox hg
        have H8 := Aside0.mk (And.intro (Kd.R_below H8.out.1 hb) (Kd.R_below H8.out.2 hb))
        have HS := Aside0.mk (below_step HS.out hb)
        refine hK.out _ _ HS.out (fun _ => ?_)
        clear hK K hb
        refine norm_ (a' := ?_) ?_ ?_
        rotate_left
        · show Act.put _ (some 6) _ = _
          simp only [Act.put, List.setIfInBounds_toArray, List.set_cons_zero, List.set_cons_succ, i64_w, i32_w]
          rfl
        refine two_ (i := 3) (j := 4) (Ni := some 10) (Nj := some 5) #[true, true, true, true, false, true, false, false] #[true, true, true, false, true, true, false, false] rfl rfl rfl rfl (by kernel_rfl) (by decide) (by decide) (fun K hK => ?_) (fun K hK => ?_)
        · refine goes_ Try.func28 (by kernel_rfl) rfl #[.agg #[.slice B0 rs'.length d0, .slice B1 fs'.length d1]] (by rfl) rfl rfl (by (try simp only [List.map_toArray, List.map_cons, List.map_nil]); first | done | rfl) ?_
          refine Calls.mono (HC2.out _ HS.out) ?_
          rintro e w113 ⟨Q0, q0, Q1, q1, rfl, hr0, hr1, hb⟩
          refine ⟨_, rfl, ?_⟩
          have H10 := Aside0.mk (And.intro (Kd.R_lower hr0 (below_size HS.out)) (Kd.R_lower hr1 (below_size HS.out)))
          clear hr0 hr1
          have H8 := Aside0.mk (And.intro (Kd.R_below H8.out.1 hb) (Kd.R_below H8.out.2 hb))
          have K6 := Aside0.mk (blk_below K6.out hb)
          have HS := Aside0.mk (below_step HS.out hb)
          refine hK.out _ _ HS.out (fun _ => ?_)
          clear hK K hb
          refine norm_ (a' := ?_) ?_ ?_
          rotate_left
          · show Act.put _ (some 10) _ = _
            simp only [Act.put, List.setIfInBounds_toArray, List.set_cons_zero, List.set_cons_succ, i64_w, i32_w]
            rfl
          refine one_ (i := 4) (N := some 5) #[true, true, true, true, true, true, false, false] rfl rfl (by kernel_rfl) (by decide) (fun K hK => ?_)
          refine box_step (by rfl) (N := 5) rfl (cs := z_38.toArray) (t := 38) ?hr ?_
          case hr => first | (go_simp; done) | (go_simp; rfl)
          intro g5 hg w114 hbox hb
          have HG5 := Aside0.mk (show wB.heap.size ≤ g5 by rw [hg]; exact below_size HS.out)
          have HNE := Aside0.mk (show g5 ≠ g6 by rw [hg]; exact Nat.ne_of_gt (blk_lt K6.out))
          have K5 := Aside0.mk hbox
          clear hbox hg
          have H8 := Aside0.mk (And.intro (Kd.R_below H8.out.1 hb) (Kd.R_below H8.out.2 hb))
          have H10 := Aside0.mk (And.intro (Kd.R_below H10.out.1 hb) (Kd.R_below H10.out.2 hb))
          have K6 := Aside0.mk (blk_below K6.out hb)
          have HS := Aside0.mk (below_step HS.out hb)
          refine hK.out _ _ HS.out (fun _ => ?_)
          clear hK K hb
          refine norm_ (a' := ?_) ?_ ?_
          rotate_left
          · show Act.put _ (some 5) _ = _
            simp only [Act.put, List.setIfInBounds_toArray, List.set_cons_zero, List.set_cons_succ, i64_w, i32_w]
            rfl
          exact hcont (.agg #[.slice P0 rs.length p0, .slice P1 fs.length p1]) (.agg #[.slice Q0 rs'.length q0, .slice Q1 fs'.length q1]) g5 g6 _ ⟨⟨P0, p0, P1, p1, rfl, H8.out.1, H8.out.2⟩, ⟨Q0, q0, Q1, q1, rfl, H10.out.1, H10.out.2⟩, K5.out, K6.out, HNE.out, HG5.out, HG6.out, HS.out⟩
        · refine box_step (by rfl) (N := 5) rfl (cs := z_38.toArray) (t := 38) ?hr ?_
          case hr => first | (go_simp; done) | (go_simp; rfl)
          intro g5 hg w115 hbox hb
          have HG5 := Aside0.mk (show wB.heap.size ≤ g5 by rw [hg]; exact below_size HS.out)
          have HNE := Aside0.mk (show g5 ≠ g6 by rw [hg]; exact Nat.ne_of_gt (blk_lt K6.out))
          have K5 := Aside0.mk hbox
          clear hbox hg
          have H8 := Aside0.mk (And.intro (Kd.R_below H8.out.1 hb) (Kd.R_below H8.out.2 hb))
          have K6 := Aside0.mk (blk_below K6.out hb)
          have HS := Aside0.mk (below_step HS.out hb)
          refine hK.out _ _ HS.out (fun _ => ?_)
          clear hK K hb
          refine norm_ (a' := ?_) ?_ ?_
          rotate_left
          · show Act.put _ (some 5) _ = _
            simp only [Act.put, List.setIfInBounds_toArray, List.set_cons_zero, List.set_cons_succ, i64_w, i32_w]
            rfl
          refine one_ (i := 3) (N := some 10) #[true, true, true, true, true, true, false, false] rfl rfl (by kernel_rfl) (by decide) (fun K hK => ?_)
          refine goes_ Try.func28 (by kernel_rfl) rfl #[.agg #[.slice B0 rs'.length d0, .slice B1 fs'.length d1]] (by rfl) rfl rfl (by (try simp only [List.map_toArray, List.map_cons, List.map_nil]); first | done | rfl) ?_
          refine Calls.mono (HC2.out _ HS.out) ?_
          rintro e w116 ⟨Q0, q0, Q1, q1, rfl, hr0, hr1, hb⟩
          refine ⟨_, rfl, ?_⟩
          have H10 := Aside0.mk (And.intro (Kd.R_lower hr0 (below_size HS.out)) (Kd.R_lower hr1 (below_size HS.out)))
          clear hr0 hr1
          have H8 := Aside0.mk (And.intro (Kd.R_below H8.out.1 hb) (Kd.R_below H8.out.2 hb))
          have K5 := Aside0.mk (blk_below K5.out hb)
          have K6 := Aside0.mk (blk_below K6.out hb)
          have HS := Aside0.mk (below_step HS.out hb)
          refine hK.out _ _ HS.out (fun _ => ?_)
          clear hK K hb
          refine norm_ (a' := ?_) ?_ ?_
          rotate_left
          · show Act.put _ (some 10) _ = _
            simp only [Act.put, List.setIfInBounds_toArray, List.set_cons_zero, List.set_cons_succ, i64_w, i32_w]
            rfl
          exact hcont (.agg #[.slice P0 rs.length p0, .slice P1 fs.length p1]) (.agg #[.slice Q0 rs'.length q0, .slice Q1 fs'.length q1]) g5 g6 _ ⟨⟨P0, p0, P1, p1, rfl, H8.out.1, H8.out.2⟩, ⟨Q0, q0, Q1, q1, rfl, H10.out.1, H10.out.2⟩, K5.out, K6.out, HNE.out, HG5.out, HG6.out, HS.out⟩
    · refine box_step (by rfl) (N := 5) rfl (cs := z_38.toArray) (t := 38) ?hr ?_
      case hr => first | (go_simp; done) | (go_simp; rfl)
      intro g5 hg w117 hbox hb
      have HG5 := Aside0.mk (show wB.heap.size ≤ g5 by rw [hg]; exact below_size HS.out)
      have K5 := Aside0.mk hbox
      clear hbox hg
      have HS := Aside0.mk (below_step HS.out hb)
      refine hK.out _ _ HS.out (fun _ => ?_)
      clear hK K hb
      refine norm_ (a' := ?_) ?_ ?_
      rotate_left
      · show Act.put _ (some 5) _ = _
        simp only [Act.put, List.setIfInBounds_toArray, List.set_cons_zero, List.set_cons_succ, i64_w, i32_w]
        rfl
      refine two_ (i := 1) (j := 5) (Ni := some 8) (Nj := some 6) #[true, true, true, false, true, false, false, false] #[true, false, true, false, true, true, false, false] rfl rfl rfl rfl (by kernel_rfl) (by decide) (by decide) (fun K hK => ?_) (fun K hK => ?_)
      · refine goes_ Try.func28 (by kernel_rfl) rfl #[.agg #[.slice A0 rs.length c0, .slice A1 fs.length c1]] (by rfl) rfl rfl (by (try simp only [List.map_toArray, List.map_cons, List.map_nil]); first | done | rfl) ?_
        refine Calls.mono (HC1.out _ HS.out) ?_
        rintro e w118 ⟨P0, p0, P1, p1, rfl, hr0, hr1, hb⟩
        refine ⟨_, rfl, ?_⟩
        have H8 := Aside0.mk (And.intro (Kd.R_lower hr0 (below_size HS.out)) (Kd.R_lower hr1 (below_size HS.out)))
        clear hr0 hr1
        have K5 := Aside0.mk (blk_below K5.out hb)
        have HS := Aside0.mk (below_step HS.out hb)
        refine hK.out _ _ HS.out (fun _ => ?_)
        clear hK K hb
        refine norm_ (a' := ?_) ?_ ?_
        rotate_left
        · show Act.put _ (some 8) _ = _
          simp only [Act.put, List.setIfInBounds_toArray, List.set_cons_zero, List.set_cons_succ, i64_w, i32_w]
          rfl
        refine two_ (i := 3) (j := 5) (Ni := some 10) (Nj := some 6) #[true, true, true, true, true, false, false, false] #[true, true, true, false, true, true, false, false] rfl rfl rfl rfl (by kernel_rfl) (by decide) (by decide) (fun K hK => ?_) (fun K hK => ?_)
        · refine goes_ Try.func28 (by kernel_rfl) rfl #[.agg #[.slice B0 rs'.length d0, .slice B1 fs'.length d1]] (by rfl) rfl rfl (by (try simp only [List.map_toArray, List.map_cons, List.map_nil]); first | done | rfl) ?_
          refine Calls.mono (HC2.out _ HS.out) ?_
          rintro e w119 ⟨Q0, q0, Q1, q1, rfl, hr0, hr1, hb⟩
          refine ⟨_, rfl, ?_⟩
          have H10 := Aside0.mk (And.intro (Kd.R_lower hr0 (below_size HS.out)) (Kd.R_lower hr1 (below_size HS.out)))
          clear hr0 hr1
          have H8 := Aside0.mk (And.intro (Kd.R_below H8.out.1 hb) (Kd.R_below H8.out.2 hb))
          have K5 := Aside0.mk (blk_below K5.out hb)
          have HS := Aside0.mk (below_step HS.out hb)
          refine hK.out _ _ HS.out (fun _ => ?_)
          clear hK K hb
          refine norm_ (a' := ?_) ?_ ?_
          rotate_left
          · show Act.put _ (some 10) _ = _
            simp only [Act.put, List.setIfInBounds_toArray, List.set_cons_zero, List.set_cons_succ, i64_w, i32_w]
            rfl
          refine one_ (i := 5) (N := some 6) #[true, true, true, true, true, true, false, false] rfl rfl (by kernel_rfl) (by decide) (fun K hK => ?_)
          refine box_step (by rfl) (N := 6) rfl (cs := z_38.toArray) (t := 38) ?hr ?_
          case hr => first | (go_simp; done) | (go_simp; rfl)
          intro g6 hg w120 hbox hb
          have HG6 := Aside0.mk (show wB.heap.size ≤ g6 by rw [hg]; exact below_size HS.out)
          have HNE := Aside0.mk (show g5 ≠ g6 by rw [hg]; exact Nat.ne_of_lt (blk_lt K5.out))
          have K6 := Aside0.mk hbox
          clear hbox hg
          have H8 := Aside0.mk (And.intro (Kd.R_below H8.out.1 hb) (Kd.R_below H8.out.2 hb))
          have H10 := Aside0.mk (And.intro (Kd.R_below H10.out.1 hb) (Kd.R_below H10.out.2 hb))
          have K5 := Aside0.mk (blk_below K5.out hb)
          have HS := Aside0.mk (below_step HS.out hb)
          refine hK.out _ _ HS.out (fun _ => ?_)
          clear hK K hb
          refine norm_ (a' := ?_) ?_ ?_
          rotate_left
          · show Act.put _ (some 6) _ = _
            simp only [Act.put, List.setIfInBounds_toArray, List.set_cons_zero, List.set_cons_succ, i64_w, i32_w]
            rfl
          exact hcont (.agg #[.slice P0 rs.length p0, .slice P1 fs.length p1]) (.agg #[.slice Q0 rs'.length q0, .slice Q1 fs'.length q1]) g5 g6 _ ⟨⟨P0, p0, P1, p1, rfl, H8.out.1, H8.out.2⟩, ⟨Q0, q0, Q1, q1, rfl, H10.out.1, H10.out.2⟩, K5.out, K6.out, HNE.out, HG5.out, HG6.out, HS.out⟩
        · refine box_step (by rfl) (N := 6) rfl (cs := z_38.toArray) (t := 38) ?hr ?_
          case hr => first | (go_simp; done) | (go_simp; rfl)
          intro g6 hg w121 hbox hb
          have HG6 := Aside0.mk (show wB.heap.size ≤ g6 by rw [hg]; exact below_size HS.out)
          have HNE := Aside0.mk (show g5 ≠ g6 by rw [hg]; exact Nat.ne_of_lt (blk_lt K5.out))
          have K6 := Aside0.mk hbox
          clear hbox hg
          have H8 := Aside0.mk (And.intro (Kd.R_below H8.out.1 hb) (Kd.R_below H8.out.2 hb))
          have K5 := Aside0.mk (blk_below K5.out hb)
          have HS := Aside0.mk (below_step HS.out hb)
          refine hK.out _ _ HS.out (fun _ => ?_)
          clear hK K hb
          refine norm_ (a' := ?_) ?_ ?_
          rotate_left
          · show Act.put _ (some 6) _ = _
            simp only [Act.put, List.setIfInBounds_toArray, List.set_cons_zero, List.set_cons_succ, i64_w, i32_w]
            rfl
          refine one_ (i := 3) (N := some 10) #[true, true, true, true, true, true, false, false] rfl rfl (by kernel_rfl) (by decide) (fun K hK => ?_)
          refine goes_ Try.func28 (by kernel_rfl) rfl #[.agg #[.slice B0 rs'.length d0, .slice B1 fs'.length d1]] (by rfl) rfl rfl (by (try simp only [List.map_toArray, List.map_cons, List.map_nil]); first | done | rfl) ?_
          refine Calls.mono (HC2.out _ HS.out) ?_
          rintro e w122 ⟨Q0, q0, Q1, q1, rfl, hr0, hr1, hb⟩
          refine ⟨_, rfl, ?_⟩
          have H10 := Aside0.mk (And.intro (Kd.R_lower hr0 (below_size HS.out)) (Kd.R_lower hr1 (below_size HS.out)))
          clear hr0 hr1
          have H8 := Aside0.mk (And.intro (Kd.R_below H8.out.1 hb) (Kd.R_below H8.out.2 hb))
          have K5 := Aside0.mk (blk_below K5.out hb)
          have K6 := Aside0.mk (blk_below K6.out hb)
          have HS := Aside0.mk (below_step HS.out hb)
          refine hK.out _ _ HS.out (fun _ => ?_)
          clear hK K hb
          refine norm_ (a' := ?_) ?_ ?_
          rotate_left
          · show Act.put _ (some 10) _ = _
            simp only [Act.put, List.setIfInBounds_toArray, List.set_cons_zero, List.set_cons_succ, i64_w, i32_w]
            rfl
          exact hcont (.agg #[.slice P0 rs.length p0, .slice P1 fs.length p1]) (.agg #[.slice Q0 rs'.length q0, .slice Q1 fs'.length q1]) g5 g6 _ ⟨⟨P0, p0, P1, p1, rfl, H8.out.1, H8.out.2⟩, ⟨Q0, q0, Q1, q1, rfl, H10.out.1, H10.out.2⟩, K5.out, K6.out, HNE.out, HG5.out, HG6.out, HS.out⟩
      · refine box_step (by rfl) (N := 6) rfl (cs := z_38.toArray) (t := 38) ?hr ?_
        case hr => first | (go_simp; done) | (go_simp; rfl)
        intro g6 hg w123 hbox hb
        have HG6 := Aside0.mk (show wB.heap.size ≤ g6 by rw [hg]; exact below_size HS.out)
        have HNE := Aside0.mk (show g5 ≠ g6 by rw [hg]; exact Nat.ne_of_lt (blk_lt K5.out))
        have K6 := Aside0.mk hbox
        clear hbox hg
        have K5 := Aside0.mk (blk_below K5.out hb)
        have HS := Aside0.mk (below_step HS.out hb)
        refine hK.out _ _ HS.out (fun _ => ?_)
        clear hK K hb
        refine norm_ (a' := ?_) ?_ ?_
        rotate_left
        · show Act.put _ (some 6) _ = _
          simp only [Act.put, List.setIfInBounds_toArray, List.set_cons_zero, List.set_cons_succ, i64_w, i32_w]
          rfl
        refine one_ (i := 1) (N := some 8) #[true, true, true, false, true, true, false, false] rfl rfl (by kernel_rfl) (by decide) (fun K hK => ?_)
        refine goes_ Try.func28 (by kernel_rfl) rfl #[.agg #[.slice A0 rs.length c0, .slice A1 fs.length c1]] (by rfl) rfl rfl (by (try simp only [List.map_toArray, List.map_cons, List.map_nil]); first | done | rfl) ?_
        refine Calls.mono (HC1.out _ HS.out) ?_
        rintro e w124 ⟨P0, p0, P1, p1, rfl, hr0, hr1, hb⟩
        refine ⟨_, rfl, ?_⟩
        have H8 := Aside0.mk (And.intro (Kd.R_lower hr0 (below_size HS.out)) (Kd.R_lower hr1 (below_size HS.out)))
        clear hr0 hr1
        have K5 := Aside0.mk (blk_below K5.out hb)
        have K6 := Aside0.mk (blk_below K6.out hb)
        have HS := Aside0.mk (below_step HS.out hb)
        refine hK.out _ _ HS.out (fun _ => ?_)
        clear hK K hb
        refine norm_ (a' := ?_) ?_ ?_
        rotate_left
        · show Act.put _ (some 8) _ = _
          simp only [Act.put, List.setIfInBounds_toArray, List.set_cons_zero, List.set_cons_succ, i64_w, i32_w]
          rfl
        refine one_ (i := 3) (N := some 10) #[true, true, true, true, true, true, false, false] rfl rfl (by kernel_rfl) (by decide) (fun K hK => ?_)
        refine goes_ Try.func28 (by kernel_rfl) rfl #[.agg #[.slice B0 rs'.length d0, .slice B1 fs'.length d1]] (by rfl) rfl rfl (by (try simp only [List.map_toArray, List.map_cons, List.map_nil]); first | done | rfl) ?_
        refine Calls.mono (HC2.out _ HS.out) ?_
        rintro e w125 ⟨Q0, q0, Q1, q1, rfl, hr0, hr1, hb⟩
        refine ⟨_, rfl, ?_⟩
        have H10 := Aside0.mk (And.intro (Kd.R_lower hr0 (below_size HS.out)) (Kd.R_lower hr1 (below_size HS.out)))
        clear hr0 hr1
        have H8 := Aside0.mk (And.intro (Kd.R_below H8.out.1 hb) (Kd.R_below H8.out.2 hb))
        have K5 := Aside0.mk (blk_below K5.out hb)
        have K6 := Aside0.mk (blk_below K6.out hb)
        have HS := Aside0.mk (below_step HS.out hb)
        refine hK.out _ _ HS.out (fun _ => ?_)
        clear hK K hb
        refine norm_ (a' := ?_) ?_ ?_
        rotate_left
        · show Act.put _ (some 10) _ = _
          simp only [Act.put, List.setIfInBounds_toArray, List.set_cons_zero, List.set_cons_succ, i64_w, i32_w]
          rfl
        exact hcont (.agg #[.slice P0 rs.length p0, .slice P1 fs.length p1]) (.agg #[.slice Q0 rs'.length q0, .slice Q1 fs'.length q1]) g5 g6 _ ⟨⟨P0, p0, P1, p1, rfl, H8.out.1, H8.out.2⟩, ⟨Q0, q0, Q1, q1, rfl, H10.out.1, H10.out.2⟩, K5.out, K6.out, HNE.out, HG5.out, HG6.out, HS.out⟩
    · refine box_step (by rfl) (N := 6) rfl (cs := z_38.toArray) (t := 38) ?hr ?_
      case hr => first | (go_simp; done) | (go_simp; rfl)
      intro g6 hg w126 hbox hb
      have HG6 := Aside0.mk (show wB.heap.size ≤ g6 by rw [hg]; exact below_size HS.out)
      have K6 := Aside0.mk hbox
      clear hbox hg
      have HS := Aside0.mk (below_step HS.out hb)
      refine hK.out _ _ HS.out (fun _ => ?_)
      clear hK K hb
      refine norm_ (a' := ?_) ?_ ?_
      rotate_left
      · show Act.put _ (some 6) _ = _
        simp only [Act.put, List.setIfInBounds_toArray, List.set_cons_zero, List.set_cons_succ, i64_w, i32_w]
        rfl
      refine two_ (i := 1) (j := 4) (Ni := some 8) (Nj := some 5) #[true, true, true, false, false, true, false, false] #[true, false, true, false, true, true, false, false] rfl rfl rfl rfl (by kernel_rfl) (by decide) (by decide) (fun K hK => ?_) (fun K hK => ?_)
      · refine goes_ Try.func28 (by kernel_rfl) rfl #[.agg #[.slice A0 rs.length c0, .slice A1 fs.length c1]] (by rfl) rfl rfl (by (try simp only [List.map_toArray, List.map_cons, List.map_nil]); first | done | rfl) ?_
        refine Calls.mono (HC1.out _ HS.out) ?_
        rintro e w127 ⟨P0, p0, P1, p1, rfl, hr0, hr1, hb⟩
        refine ⟨_, rfl, ?_⟩
        have H8 := Aside0.mk (And.intro (Kd.R_lower hr0 (below_size HS.out)) (Kd.R_lower hr1 (below_size HS.out)))
        clear hr0 hr1
        have K6 := Aside0.mk (blk_below K6.out hb)
        have HS := Aside0.mk (below_step HS.out hb)
        refine hK.out _ _ HS.out (fun _ => ?_)
        clear hK K hb
        refine norm_ (a' := ?_) ?_ ?_
        rotate_left
        · show Act.put _ (some 8) _ = _
          simp only [Act.put, List.setIfInBounds_toArray, List.set_cons_zero, List.set_cons_succ, i64_w, i32_w]
          rfl
        refine two_ (i := 3) (j := 4) (Ni := some 10) (Nj := some 5) #[true, true, true, true, false, true, false, false] #[true, true, true, false, true, true, false, false] rfl rfl rfl rfl (by kernel_rfl) (by decide) (by decide) (fun K hK => ?_) (fun K hK => ?_)
        · refine goes_ Try.func28 (by kernel_rfl) rfl #[.agg #[.slice B0 rs'.length d0, .slice B1 fs'.length d1]] (by rfl) rfl rfl (by (try simp only [List.map_toArray, List.map_cons, List.map_nil]); first | done | rfl) ?_
          refine Calls.mono (HC2.out _ HS.out) ?_
          rintro e w128 ⟨Q0, q0, Q1, q1, rfl, hr0, hr1, hb⟩
          refine ⟨_, rfl, ?_⟩
          have H10 := Aside0.mk (And.intro (Kd.R_lower hr0 (below_size HS.out)) (Kd.R_lower hr1 (below_size HS.out)))
          clear hr0 hr1
          have H8 := Aside0.mk (And.intro (Kd.R_below H8.out.1 hb) (Kd.R_below H8.out.2 hb))
          have K6 := Aside0.mk (blk_below K6.out hb)
          have HS := Aside0.mk (below_step HS.out hb)
          refine hK.out _ _ HS.out (fun _ => ?_)
          clear hK K hb
          refine norm_ (a' := ?_) ?_ ?_
          rotate_left
          · show Act.put _ (some 10) _ = _
            simp only [Act.put, List.setIfInBounds_toArray, List.set_cons_zero, List.set_cons_succ, i64_w, i32_w]
            rfl
          refine one_ (i := 4) (N := some 5) #[true, true, true, true, true, true, false, false] rfl rfl (by kernel_rfl) (by decide) (fun K hK => ?_)
          refine box_step (by rfl) (N := 5) rfl (cs := z_38.toArray) (t := 38) ?hr ?_
          case hr => first | (go_simp; done) | (go_simp; rfl)
          intro g5 hg w129 hbox hb
          have HG5 := Aside0.mk (show wB.heap.size ≤ g5 by rw [hg]; exact below_size HS.out)
          have HNE := Aside0.mk (show g5 ≠ g6 by rw [hg]; exact Nat.ne_of_gt (blk_lt K6.out))
          have K5 := Aside0.mk hbox
          clear hbox hg
          have H8 := Aside0.mk (And.intro (Kd.R_below H8.out.1 hb) (Kd.R_below H8.out.2 hb))
          have H10 := Aside0.mk (And.intro (Kd.R_below H10.out.1 hb) (Kd.R_below H10.out.2 hb))
          have K6 := Aside0.mk (blk_below K6.out hb)
          have HS := Aside0.mk (below_step HS.out hb)
          refine hK.out _ _ HS.out (fun _ => ?_)
          clear hK K hb
          refine norm_ (a' := ?_) ?_ ?_
          rotate_left
          · show Act.put _ (some 5) _ = _
            simp only [Act.put, List.setIfInBounds_toArray, List.set_cons_zero, List.set_cons_succ, i64_w, i32_w]
            rfl
          exact hcont (.agg #[.slice P0 rs.length p0, .slice P1 fs.length p1]) (.agg #[.slice Q0 rs'.length q0, .slice Q1 fs'.length q1]) g5 g6 _ ⟨⟨P0, p0, P1, p1, rfl, H8.out.1, H8.out.2⟩, ⟨Q0, q0, Q1, q1, rfl, H10.out.1, H10.out.2⟩, K5.out, K6.out, HNE.out, HG5.out, HG6.out, HS.out⟩
        · refine box_step (by rfl) (N := 5) rfl (cs := z_38.toArray) (t := 38) ?hr ?_
          case hr => first | (go_simp; done) | (go_simp; rfl)
          intro g5 hg w130 hbox hb
          have HG5 := Aside0.mk (show wB.heap.size ≤ g5 by rw [hg]; exact below_size HS.out)
          have HNE := Aside0.mk (show g5 ≠ g6 by rw [hg]; exact Nat.ne_of_gt (blk_lt K6.out))
          have K5 := Aside0.mk hbox
          clear hbox hg
          have H8 := Aside0.mk (And.intro (Kd.R_below H8.out.1 hb) (Kd.R_below H8.out.2 hb))
          have K6 := Aside0.mk (blk_below K6.out hb)
          have HS := Aside0.mk (below_step HS.out hb)
          refine hK.out _ _ HS.out (fun _ => ?_)
          clear hK K hb
          refine norm_ (a' := ?_) ?_ ?_
          rotate_left
          · show Act.put _ (some 5) _ = _
            simp only [Act.put, List.setIfInBounds_toArray, List.set_cons_zero, List.set_cons_succ, i64_w, i32_w]
            rfl
          refine one_ (i := 3) (N := some 10) #[true, true, true, true, true, true, false, false] rfl rfl (by kernel_rfl) (by decide) (fun K hK => ?_)
          refine goes_ Try.func28 (by kernel_rfl) rfl #[.agg #[.slice B0 rs'.length d0, .slice B1 fs'.length d1]] (by rfl) rfl rfl (by (try simp only [List.map_toArray, List.map_cons, List.map_nil]); first | done | rfl) ?_
          refine Calls.mono (HC2.out _ HS.out) ?_
          rintro e w131 ⟨Q0, q0, Q1, q1, rfl, hr0, hr1, hb⟩
          refine ⟨_, rfl, ?_⟩
          have H10 := Aside0.mk (And.intro (Kd.R_lower hr0 (below_size HS.out)) (Kd.R_lower hr1 (below_size HS.out)))
          clear hr0 hr1
          have H8 := Aside0.mk (And.intro (Kd.R_below H8.out.1 hb) (Kd.R_below H8.out.2 hb))
          have K5 := Aside0.mk (blk_below K5.out hb)
          have K6 := Aside0.mk (blk_below K6.out hb)
          have HS := Aside0.mk (below_step HS.out hb)
          refine hK.out _ _ HS.out (fun _ => ?_)
          clear hK K hb
          refine norm_ (a' := ?_) ?_ ?_
          rotate_left
          · show Act.put _ (some 10) _ = _
            simp only [Act.put, List.setIfInBounds_toArray, List.set_cons_zero, List.set_cons_succ, i64_w, i32_w]
            rfl
          exact hcont (.agg #[.slice P0 rs.length p0, .slice P1 fs.length p1]) (.agg #[.slice Q0 rs'.length q0, .slice Q1 fs'.length q1]) g5 g6 _ ⟨⟨P0, p0, P1, p1, rfl, H8.out.1, H8.out.2⟩, ⟨Q0, q0, Q1, q1, rfl, H10.out.1, H10.out.2⟩, K5.out, K6.out, HNE.out, HG5.out, HG6.out, HS.out⟩
      · refine box_step (by rfl) (N := 5) rfl (cs := z_38.toArray) (t := 38) ?hr ?_
        case hr => first | (go_simp; done) | (go_simp; rfl)
        intro g5 hg w132 hbox hb
        have HG5 := Aside0.mk (show wB.heap.size ≤ g5 by rw [hg]; exact below_size HS.out)
        have HNE := Aside0.mk (show g5 ≠ g6 by rw [hg]; exact Nat.ne_of_gt (blk_lt K6.out))
        have K5 := Aside0.mk hbox
        clear hbox hg
        have K6 := Aside0.mk (blk_below K6.out hb)
        have HS := Aside0.mk (below_step HS.out hb)
        refine hK.out _ _ HS.out (fun _ => ?_)
        clear hK K hb
        refine norm_ (a' := ?_) ?_ ?_
        rotate_left
        · show Act.put _ (some 5) _ = _
          simp only [Act.put, List.setIfInBounds_toArray, List.set_cons_zero, List.set_cons_succ, i64_w, i32_w]
          rfl
        refine one_ (i := 1) (N := some 8) #[true, true, true, false, true, true, false, false] rfl rfl (by kernel_rfl) (by decide) (fun K hK => ?_)
        refine goes_ Try.func28 (by kernel_rfl) rfl #[.agg #[.slice A0 rs.length c0, .slice A1 fs.length c1]] (by rfl) rfl rfl (by (try simp only [List.map_toArray, List.map_cons, List.map_nil]); first | done | rfl) ?_
        refine Calls.mono (HC1.out _ HS.out) ?_
        rintro e w133 ⟨P0, p0, P1, p1, rfl, hr0, hr1, hb⟩
        refine ⟨_, rfl, ?_⟩
        have H8 := Aside0.mk (And.intro (Kd.R_lower hr0 (below_size HS.out)) (Kd.R_lower hr1 (below_size HS.out)))
        clear hr0 hr1
        have K5 := Aside0.mk (blk_below K5.out hb)
        have K6 := Aside0.mk (blk_below K6.out hb)
        have HS := Aside0.mk (below_step HS.out hb)
        refine hK.out _ _ HS.out (fun _ => ?_)
        clear hK K hb
        refine norm_ (a' := ?_) ?_ ?_
        rotate_left
        · show Act.put _ (some 8) _ = _
          simp only [Act.put, List.setIfInBounds_toArray, List.set_cons_zero, List.set_cons_succ, i64_w, i32_w]
          rfl
        refine one_ (i := 3) (N := some 10) #[true, true, true, true, true, true, false, false] rfl rfl (by kernel_rfl) (by decide) (fun K hK => ?_)
        refine goes_ Try.func28 (by kernel_rfl) rfl #[.agg #[.slice B0 rs'.length d0, .slice B1 fs'.length d1]] (by rfl) rfl rfl (by (try simp only [List.map_toArray, List.map_cons, List.map_nil]); first | done | rfl) ?_
        refine Calls.mono (HC2.out _ HS.out) ?_
        rintro e w134 ⟨Q0, q0, Q1, q1, rfl, hr0, hr1, hb⟩
        refine ⟨_, rfl, ?_⟩
        have H10 := Aside0.mk (And.intro (Kd.R_lower hr0 (below_size HS.out)) (Kd.R_lower hr1 (below_size HS.out)))
        clear hr0 hr1
        have H8 := Aside0.mk (And.intro (Kd.R_below H8.out.1 hb) (Kd.R_below H8.out.2 hb))
        have K5 := Aside0.mk (blk_below K5.out hb)
        have K6 := Aside0.mk (blk_below K6.out hb)
        have HS := Aside0.mk (below_step HS.out hb)
        refine hK.out _ _ HS.out (fun _ => ?_)
        clear hK K hb
        refine norm_ (a' := ?_) ?_ ?_
        rotate_left
        · show Act.put _ (some 10) _ = _
          simp only [Act.put, List.setIfInBounds_toArray, List.set_cons_zero, List.set_cons_succ, i64_w, i32_w]
          rfl
        exact hcont (.agg #[.slice P0 rs.length p0, .slice P1 fs.length p1]) (.agg #[.slice Q0 rs'.length q0, .slice Q1 fs'.length q1]) g5 g6 _ ⟨⟨P0, p0, P1, p1, rfl, H8.out.1, H8.out.2⟩, ⟨Q0, q0, Q1, q1, rfl, H10.out.1, H10.out.2⟩, K5.out, K6.out, HNE.out, HG5.out, HG6.out, HS.out⟩
  rintro ⟨v8, v10, g5, g6⟩ w6 ⟨⟨P0, p0, P1, p1, e8, r8a, r8b⟩, ⟨Q0, q0, Q1, q1, e10, r10a, r10b⟩, k5, k6, hne, hge5, hge6, hS⟩
  obtain rfl : v8 = .agg #[.slice P0 rs.length p0, .slice P1 fs.length p1] := e8
  obtain rfl : v10 = .agg #[.slice Q0 rs'.length q0, .slice Q1 fs'.length q1] := e10
  have R8 := Aside0.mk (And.intro r8a r8b)
  have R10 := Aside0.mk (And.intro r10a r10b)
  have K5 := Aside0.mk (show w6.heap[g5]? = some (.cells z_38.toArray 38 (0, 0)) from k5)
  have K6 := Aside0.mk (show w6.heap[g6]? = some (.cells z_38.toArray 38 (0, 0)) from k6)
  have HNE := Aside0.mk (show g5 ≠ g6 from hne)
  have HG5 := Aside0.mk (show wB.heap.size ≤ g5 from hge5)
  have HG6 := Aside0.mk (show wB.heap.size ≤ g6 from hge6)
  have HS6 := Aside0.mk hS
  clear r8a r8b r10a r10b k5 k6 hne hge5 hge6 hS hHeld
  refine norm_ (a' := ?_) ?_ ?_
  rotate_left
  · simp only [putAll, Act.put, List.setIfInBounds_toArray, List.set_cons_zero, List.set_cons_succ]
    rfl
  refine one_ (i := 6) (N := none) #[true, true, true, true, true, true, true, false] rfl rfl (by kernel_rfl) (by decide) (fun K hK => ?_)
  refine store_step (w0 := wB) (base := wB.heap.size) (g := g5) (c' := [.slice P0 rs.length p0, .slice P1 fs.length p1]) (by rfl) rfl rfl rfl rfl K5.out size38 rfl rfl (by intro u hu; simp at hu; rcases hu with rfl | rfl <;> rfl) HS6.out HG5.out ?_
  intro w7 hbc7 hS7 hoth7
  have BX7 := Aside0.mk hbc7
  have HS7 := Aside0.mk hS7
  have K67 := Aside0.mk ((hoth7 g6 HNE.out.symm).trans K6.out)
  have R87 := Aside0.mk (And.intro (far76 R8.out.1 K5.out hoth7) (far83 R8.out.2 K5.out hoth7))
  have R107 := Aside0.mk (And.intro (far76 R10.out.1 K5.out hoth7) (far83 R10.out.2 K5.out hoth7))
  refine hK.out _ _ hS7 (fun _ => ?_)
  clear hK K hbc7 hS7 hoth7 R8 R10 K5 K6 HS6
  refine one_ (i := 7) (N := none) #[true, true, true, true, true, true, true, true] rfl rfl (by kernel_rfl) (by decide) (fun K hK => ?_)
  refine store_step (w0 := wB) (base := wB.heap.size) (g := g6) (c' := [.slice Q0 rs'.length q0, .slice Q1 fs'.length q1]) (by rfl) rfl rfl rfl rfl K67.out size38 rfl rfl (by intro u hu; simp at hu; rcases hu with rfl | rfl <;> rfl) HS7.out HG6.out ?_
  intro w9 hbc9 hS9 hoth9
  have BY9 := Aside0.mk hbc9
  have HS9 := Aside0.mk hS9
  have BX9 := Aside0.mk ((hoth9 g5 HNE.out).trans BX7.out)
  have R89 := Aside0.mk (And.intro (far76 R87.out.1 K67.out hoth9) (far83 R87.out.2 K67.out hoth9))
  have R109 := Aside0.mk (And.intro (far76 R107.out.1 K67.out hoth9) (far83 R107.out.2 K67.out hoth9))
  refine hK.out _ _ hS9 (fun _ => ?_)
  clear hK K hbc9 hS9 hoth9 R87 R107 K67 HS7 BX7
  refine done_ (by kernel_rfl) ?_
  have BA9 := Aside0.mk (blk_below BA.out HS9.out)
  have BB9 := Aside0.mk (blk_below BB.out HS9.out)
  have CX0 := Aside0.mk (Kd.R_reads' R89.out.1).2.2
  have CX1 := Aside0.mk (Kd.R_reads' R89.out.2).2.2
  have CY0 := Aside0.mk (Kd.R_reads' R109.out.1).2.2
  have CY1 := Aside0.mk (Kd.R_reads' R109.out.2).2.2
  have CA0 := Aside0.mk (Kd.C_below (Kd.C_below HA0.out HW.out) HS9.out)
  have CA1 := Aside0.mk (Kd.C_below (Kd.C_below HA1.out HW.out) HS9.out)
  have CB0 := Aside0.mk (Kd.C_below (Kd.C_below HB0.out HW.out) HS9.out)
  have CB1 := Aside0.mk (Kd.C_below (Kd.C_below HB1.out HW.out) HS9.out)
  have HNF := Aside0.mk (show ∀ x ∈ fs, ∀ z ∈ x.f4, SizeOf.sizeOf z ≤ N from fun x hx => (HO.out.2.2.2 x hx).2.2.2)
  have HNF' := Aside0.mk (show ∀ x ∈ fs', ∀ z ∈ x.f4, SizeOf.sizeOf z ≤ N from fun x hx => (HO'.out.2.2.2 x hx).2.2.2)
  obtain ⟨s, hs⟩ : ∃ s, (eqf sameR rs rs' && eqf (sameF N N) fs fs') = s := ⟨_, rfl⟩
  have K29 := Aside0.mk (fun (W : World) (h : Below w9.heap.size w9 W) => same29 N P0 p0 rs P1 p1 fs Q0 q0 rs' Q1 q1 fs' W (Kd.C_below CX0.out h) (Kd.C_below CX1.out h) (Kd.C_below CY0.out h) (Kd.C_below CY1.out h) HNF.out)
  have K30 := Aside0.mk (fun (W : World) (h : Below w9.heap.size w9 W) => ref30 N A0 c0 rs A1 c1 fs B0 d0 rs' B1 d1 fs' W (Kd.C_below CA0.out h) (Kd.C_below CA1.out h) (Kd.C_below CB0.out h) (Kd.C_below CB1.out h) HNF.out)
  have K29x := Aside0.mk (fun (W : World) (h : Below w9.heap.size w9 W) => same29 N P0 p0 rs P1 p1 fs P0 p0 rs P1 p1 fs W (Kd.C_below CX0.out h) (Kd.C_below CX1.out h) (Kd.C_below CX0.out h) (Kd.C_below CX1.out h) HNF.out)
  have K31x := Aside0.mk (fun (W : World) (h : Below w9.heap.size w9 W) => plain31 N P0 p0 rs P1 p1 fs A0 c0 A1 c1 W (Kd.C_below CX0.out h) (Kd.C_below CX1.out h) (Kd.C_below CA0.out h) (Kd.C_below CA1.out h) HNF.out)
  have K31y := Aside0.mk (fun (W : World) (h : Below w9.heap.size w9 W) => plain31 N Q0 q0 rs' Q1 q1 fs' B0 d0 B1 d1 W (Kd.C_below CY0.out h) (Kd.C_below CY1.out h) (Kd.C_below CB0.out h) (Kd.C_below CB1.out h) HNF'.out)
  rw [hs] at K29 K30
  rw [eqf_refl _ sameR_refl, eqf_refl _ (sameF_refl N N), Bool.true_and] at K29x
  have HWF := Aside0.mk (below_step HW.out HS9.out)
  clear hs R89 R109 CX0 CX1 CY0 CY1 CA0 CA1 CB0 CB1 HC1 HC2 HA0 HA1 HB0 HB1 HO HO' HNF HNF' BA1 HS1 HS9 BA BB HW
  go_wp2_with fail
  refine start_ (n := 23) (S := fun w' => Below w9.heap.size w9 w') (ds := []) #[false, false, false, false, false, false, false, false, false, false, false, false, false, false, false, false, false, false, false, false, false, false, false] (by kernel_rfl) rfl rfl (below_drew1 (Below.refl w9.heap.size w9)) (fun hHeld => ?_)
  generalize w9.drew = w10 at hHeld ⊢
  refine take_ (i := 0) (N := some 11) (v := .agg [.slice P0 rs.length p0, .slice P1 fs.length p1].toArray) (a' := ?_) #[true, false, false, false, false, false, false, false, false, false, false, false, false, false, false, false, false, false, false, false, false, false, false] rfl rfl (by kernel_rfl) (fun _ _ _ h => h) (Or.inl ⟨by rfl, fun w' hS => exec_load (P := Try.prog) (ty := 38) (x := .tmp 5) rfl (show (Instr.loadAt 38 (.pointer (some (⟨g5, 0, none⟩)))).run Try.prog w' = _ from load_run (row_below hS (blk_row BX9.out)) Try.underlying38 rfl size38 rfl)⟩) hHeld ?_ ?_
  rotate_left
  · simp only [Act.put, List.setIfInBounds_toArray, List.set_cons_zero, List.set_cons_succ, i64_w, i32_w]
    rfl
  refine take_ (i := 1) (N := some 12) (v := .agg [.slice Q0 rs'.length q0, .slice Q1 fs'.length q1].toArray) (a' := ?_) #[true, true, false, false, false, false, false, false, false, false, false, false, false, false, false, false, false, false, false, false, false, false, false] rfl rfl (by kernel_rfl) (fun _ _ _ h => h) (Or.inl ⟨by rfl, fun w' hS => exec_load (P := Try.prog) (ty := 38) (x := .tmp 6) rfl (show (Instr.loadAt 38 (.pointer (some (⟨g6, 0, none⟩)))).run Try.prog w' = _ from load_run (row_below hS (blk_row BY9.out)) Try.underlying38 rfl size38 rfl)⟩) hHeld ?_ ?_
  rotate_left
  · simp only [Act.put, List.setIfInBounds_toArray, List.set_cons_zero, List.set_cons_succ, i64_w, i32_w]
    rfl
  refine take_ (i := 3) (N := some 14) (v := .agg [.slice A0 rs.length c0, .slice A1 fs.length c1].toArray) (a' := ?_) #[true, true, false, true, false, false, false, false, false, false, false, false, false, false, false, false, false, false, false, false, false, false, false] rfl rfl (by kernel_rfl) (fun _ _ _ h => h) (Or.inl ⟨by rfl, fun w' hS => exec_load (P := Try.prog) (ty := 38) (x := .tmp 2) rfl (show (Instr.loadAt 38 (.pointer (some (⟨ga, 0, none⟩)))).run Try.prog w' = _ from load_run (row_below hS (blk_row BA9.out)) Try.underlying38 rfl size38 rfl)⟩) hHeld ?_ ?_
  rotate_left
  · simp only [Act.put, List.setIfInBounds_toArray, List.set_cons_zero, List.set_cons_succ, i64_w, i32_w]
    rfl
  refine take_ (i := 4) (N := some 15) (v := .agg [.slice B0 rs'.length d0, .slice B1 fs'.length d1].toArray) (a' := ?_) #[true, true, false, true, true, false, false, false, false, false, false, false, false, false, false, false, false, false, false, false, false, false, false] rfl rfl (by kernel_rfl) (fun _ _ _ h => h) (Or.inl ⟨by rfl, fun w' hS => exec_load (P := Try.prog) (ty := 38) (x := .tmp 3) rfl (show (Instr.loadAt 38 (.pointer (some (⟨gb, 0, none⟩)))).run Try.prog w' = _ from load_run (row_below hS (blk_row BB9.out)) Try.underlying38 rfl size38 rfl)⟩) hHeld ?_ ?_
  rotate_left
  · simp only [Act.put, List.setIfInBounds_toArray, List.set_cons_zero, List.set_cons_succ, i64_w, i32_w]
    rfl
  refine one_ (i := 2) (N := some 13) #[true, true, true, true, true, false, false, false, false, false, false, false, false, false, false, false, false, false, false, false, false, false, false] rfl rfl (by kernel_rfl) (by decide) (fun K hK => ?_)
  refine goes_ Try.func29 (by kernel_rfl) rfl #[.agg #[.slice P0 rs.length p0, .slice P1 fs.length p1], .agg #[.slice Q0 rs'.length q0, .slice Q1 fs'.length q1]] (by rfl) rfl rfl (by (try simp only [List.map_toArray, List.map_cons, List.map_nil]); first | done | rfl) ?_
  refine Calls.mono (K29.out _ hHeld) ?_
  rintro e w11 ⟨rfl, hb⟩
  refine ⟨_, rfl, ?_⟩
  have HS11 := Aside0.mk (below_step hHeld hb)
  refine hK.out _ _ HS11.out (fun hHeld => ?_)
  clear hK K hb
  refine norm_ (a' := ?_) ?_ ?_
  rotate_left
  · show Act.put _ (some 13) _ = _
    simp only [Act.put, List.setIfInBounds_toArray, List.set_cons_zero, List.set_cons_succ, i64_w, i32_w]
    rfl
  refine one_ (i := 5) (N := some 16) #[true, true, true, true, true, true, false, false, false, false, false, false, false, false, false, false, false, false, false, false, false, false, false] rfl rfl (by kernel_rfl) (by decide) (fun K hK => ?_)
  refine goes_ Try.func30 (by kernel_rfl) rfl #[.agg #[.slice A0 rs.length c0, .slice A1 fs.length c1], .agg #[.slice B0 rs'.length d0, .slice B1 fs'.length d1]] (by rfl) rfl rfl (by (try simp only [List.map_toArray, List.map_cons, List.map_nil]); first | done | rfl) ?_
  refine Calls.mono (K30.out _ hHeld) ?_
  rintro e w12 ⟨rfl, hb⟩
  refine ⟨_, rfl, ?_⟩
  have HS12 := Aside0.mk (below_step hHeld hb)
  refine hK.out _ _ HS12.out (fun hHeld => ?_)
  clear hK K hb
  refine norm_ (a' := ?_) ?_ ?_
  rotate_left
  · show Act.put _ (some 16) _ = _
    simp only [Act.put, List.setIfInBounds_toArray, List.set_cons_zero, List.set_cons_succ, i64_w, i32_w]
    rfl
  refine pure_ (i := 6) (N := some 17) (v := .bool true) (a' := ?_) #[true, true, true, true, true, true, true, false, false, false, false, false, false, false, false, false, false, false, false, false, false, false, false] rfl rfl (by kernel_rfl) (fun _ _ _ h => h) (Or.inl ⟨by rfl, ?_⟩) ?_ ?_
  · intro w'
    cases s <;> (go_simp; try rfl)
  rotate_left
  · simp only [Act.put, List.setIfInBounds_toArray, List.set_cons_zero, List.set_cons_succ, i64_w, i32_w]
    rfl
  refine pure_ (i := 7) (N := some 18) (v := ?_) (a' := ?_) #[true, true, true, true, true, true, true, true, false, false, false, false, false, false, false, false, false, false, false, false, false, false, false] rfl rfl (by kernel_rfl) (fun _ _ _ h => h) (Or.inl ⟨by rfl, ?_⟩) ?_ ?_
  rotate_left
  · intro w'
    go_simp
    with_reducible rfl
  rotate_left
  · simp only [Act.put, List.setIfInBounds_toArray, List.set_cons_zero, List.set_cons_succ, i64_w, i32_w]
    rfl
  refine take_ (i := 8) (N := some 19) (v := .agg [.slice P0 rs.length p0, .slice P1 fs.length p1].toArray) (a' := ?_) #[true, true, true, true, true, true, true, true, true, false, false, false, false, false, false, false, false, false, false, false, false, false, false] rfl rfl (by kernel_rfl) (fun _ _ _ h => h) (Or.inl ⟨by rfl, fun w' hS => exec_load (P := Try.prog) (ty := 38) (x := .tmp 5) rfl (show (Instr.loadAt 38 (.pointer (some (⟨g5, 0, none⟩)))).run Try.prog w' = _ from load_run (row_below hS (blk_row BX9.out)) Try.underlying38 rfl size38 rfl)⟩) hHeld ?_ ?_
  rotate_left
  · simp only [Act.put, List.setIfInBounds_toArray, List.set_cons_zero, List.set_cons_succ, i64_w, i32_w]
    rfl
  refine take_ (i := 9) (N := some 20) (v := .agg [.slice P0 rs.length p0, .slice P1 fs.length p1].toArray) (a' := ?_) #[true, true, true, true, true, true, true, true, true, true, false, false, false, false, false, false, false, false, false, false, false, false, false] rfl rfl (by kernel_rfl) (fun _ _ _ h => h) (Or.inl ⟨by rfl, fun w' hS => exec_load (P := Try.prog) (ty := 38) (x := .tmp 5) rfl (show (Instr.loadAt 38 (.pointer (some (⟨g5, 0, none⟩)))).run Try.prog w' = _ from load_run (row_below hS (blk_row BX9.out)) Try.underlying38 rfl size38 rfl)⟩) hHeld ?_ ?_
  rotate_left
  · simp only [Act.put, List.setIfInBounds_toArray, List.set_cons_zero, List.set_cons_succ, i64_w, i32_w]
    rfl
  refine one_ (i := 10) (N := some 21) #[true, true, true, true, true, true, true, true, true, true, true, false, false, false, false, false, false, false, false, false, false, false, false] rfl rfl (by kernel_rfl) (by decide) (fun K hK => ?_)
  refine goes_ Try.func29 (by kernel_rfl) rfl #[.agg #[.slice P0 rs.length p0, .slice P1 fs.length p1], .agg #[.slice P0 rs.length p0, .slice P1 fs.length p1]] (by rfl) rfl rfl (by (try simp only [List.map_toArray, List.map_cons, List.map_nil]); first | done | rfl) ?_
  refine Calls.mono (K29x.out _ hHeld) ?_
  rintro e w13 ⟨rfl, hb⟩
  refine ⟨_, rfl, ?_⟩
  have HS13 := Aside0.mk (below_step hHeld hb)
  refine hK.out _ _ HS13.out (fun hHeld => ?_)
  clear hK K hb
  refine norm_ (a' := ?_) ?_ ?_
  rotate_left
  · show Act.put _ (some 21) _ = _
    simp only [Act.put, List.setIfInBounds_toArray, List.set_cons_zero, List.set_cons_succ, i64_w, i32_w]
    rfl
  refine pure_ (i := 11) (N := some 22) (v := ?_) (a' := ?_) #[true, true, true, true, true, true, true, true, true, true, true, true, false, false, false, false, false, false, false, false, false, false, false] rfl rfl (by kernel_rfl) (fun _ _ _ h => h) (Or.inl ⟨by rfl, ?_⟩) ?_ ?_
  rotate_left
  · intro w'
    go_simp
    with_reducible rfl
  rotate_left
  · simp only [Act.put, List.setIfInBounds_toArray, List.set_cons_zero, List.set_cons_succ, i64_w, i32_w]
    rfl
  refine pure_ (i := 12) (N := some 23) (v := ?_) (a' := ?_) #[true, true, true, true, true, true, true, true, true, true, true, true, true, false, false, false, false, false, false, false, false, false, false] rfl rfl (by kernel_rfl) (fun _ _ _ h => h) (Or.inl ⟨by rfl, ?_⟩) ?_ ?_
  rotate_left
  · intro w'
    go_simp
    with_reducible rfl
  rotate_left
  · simp only [Act.put, List.setIfInBounds_toArray, List.set_cons_zero, List.set_cons_succ, i64_w, i32_w]
    rfl
  refine take_ (i := 13) (N := some 24) (v := .agg [.slice P0 rs.length p0, .slice P1 fs.length p1].toArray) (a' := ?_) #[true, true, true, true, true, true, true, true, true, true, true, true, true, true, false, false, false, false, false, false, false, false, false] rfl rfl (by kernel_rfl) (fun _ _ _ h => h) (Or.inl ⟨by rfl, fun w' hS => exec_load (P := Try.prog) (ty := 38) (x := .tmp 5) rfl (show (Instr.loadAt 38 (.pointer (some (⟨g5, 0, none⟩)))).run Try.prog w' = _ from load_run (row_below hS (blk_row BX9.out)) Try.underlying38 rfl size38 rfl)⟩) hHeld ?_ ?_
  rotate_left
  · simp only [Act.put, List.setIfInBounds_toArray, List.set_cons_zero, List.set_cons_succ, i64_w, i32_w]
    rfl
  refine take_ (i := 14) (N := some 25) (v := .agg [.slice A0 rs.length c0, .slice A1 fs.length c1].toArray) (a' := ?_) #[true, true, true, true, true, true, true, true, true, true, true, true, true, true, true, false, false, false, false, false, false, false, false] rfl rfl (by kernel_rfl) (fun _ _ _ h => h) (Or.inl ⟨by rfl, fun w' hS => exec_load (P := Try.prog) (ty := 38) (x := .tmp 2) rfl (show (Instr.loadAt 38 (.pointer (some (⟨ga, 0, none⟩)))).run Try.prog w' = _ from load_run (row_below hS (blk_row BA9.out)) Try.underlying38 rfl size38 rfl)⟩) hHeld ?_ ?_
  rotate_left
  · simp only [Act.put, List.setIfInBounds_toArray, List.set_cons_zero, List.set_cons_succ, i64_w, i32_w]
    rfl
  refine one_ (i := 15) (N := some 26) #[true, true, true, true, true, true, true, true, true, true, true, true, true, true, true, true, false, false, false, false, false, false, false] rfl rfl (by kernel_rfl) (by decide) (fun K hK => ?_)
  refine goes_ Try.func31 (by kernel_rfl) rfl #[.agg #[.slice P0 rs.length p0, .slice P1 fs.length p1], .agg #[.slice A0 rs.length c0, .slice A1 fs.length c1]] (by rfl) rfl rfl (by (try simp only [List.map_toArray, List.map_cons, List.map_nil]); first | done | rfl) ?_
  refine Calls.mono (K31x.out _ hHeld) ?_
  rintro e w14 ⟨rfl, hb⟩
  refine ⟨_, rfl, ?_⟩
  have HS14 := Aside0.mk (below_step hHeld hb)
  refine hK.out _ _ HS14.out (fun hHeld => ?_)
  clear hK K hb
  refine norm_ (a' := ?_) ?_ ?_
  rotate_left
  · show Act.put _ (some 26) _ = _
    simp only [Act.put, List.setIfInBounds_toArray, List.set_cons_zero, List.set_cons_succ, i64_w, i32_w]
    rfl
  refine pure_ (i := 16) (N := some 27) (v := ?_) (a' := ?_) #[true, true, true, true, true, true, true, true, true, true, true, true, true, true, true, true, true, false, false, false, false, false, false] rfl rfl (by kernel_rfl) (fun _ _ _ h => h) (Or.inl ⟨by rfl, ?_⟩) ?_ ?_
  rotate_left
  · intro w'
    go_simp
    with_reducible rfl
  rotate_left
  · simp only [Act.put, List.setIfInBounds_toArray, List.set_cons_zero, List.set_cons_succ, i64_w, i32_w]
    rfl
  refine pure_ (i := 17) (N := some 28) (v := ?_) (a' := ?_) #[true, true, true, true, true, true, true, true, true, true, true, true, true, true, true, true, true, true, false, false, false, false, false] rfl rfl (by kernel_rfl) (fun _ _ _ h => h) (Or.inl ⟨by rfl, ?_⟩) ?_ ?_
  rotate_left
  · intro w'
    go_simp
    with_reducible rfl
  rotate_left
  · simp only [Act.put, List.setIfInBounds_toArray, List.set_cons_zero, List.set_cons_succ, i64_w, i32_w]
    rfl
  refine take_ (i := 18) (N := some 29) (v := .agg [.slice Q0 rs'.length q0, .slice Q1 fs'.length q1].toArray) (a' := ?_) #[true, true, true, true, true, true, true, true, true, true, true, true, true, true, true, true, true, true, true, false, false, false, false] rfl rfl (by kernel_rfl) (fun _ _ _ h => h) (Or.inl ⟨by rfl, fun w' hS => exec_load (P := Try.prog) (ty := 38) (x := .tmp 6) rfl (show (Instr.loadAt 38 (.pointer (some (⟨g6, 0, none⟩)))).run Try.prog w' = _ from load_run (row_below hS (blk_row BY9.out)) Try.underlying38 rfl size38 rfl)⟩) hHeld ?_ ?_
  rotate_left
  · simp only [Act.put, List.setIfInBounds_toArray, List.set_cons_zero, List.set_cons_succ, i64_w, i32_w]
    rfl
  refine take_ (i := 19) (N := some 30) (v := .agg [.slice B0 rs'.length d0, .slice B1 fs'.length d1].toArray) (a' := ?_) #[true, true, true, true, true, true, true, true, true, true, true, true, true, true, true, true, true, true, true, true, false, false, false] rfl rfl (by kernel_rfl) (fun _ _ _ h => h) (Or.inl ⟨by rfl, fun w' hS => exec_load (P := Try.prog) (ty := 38) (x := .tmp 3) rfl (show (Instr.loadAt 38 (.pointer (some (⟨gb, 0, none⟩)))).run Try.prog w' = _ from load_run (row_below hS (blk_row BB9.out)) Try.underlying38 rfl size38 rfl)⟩) hHeld ?_ ?_
  rotate_left
  · simp only [Act.put, List.setIfInBounds_toArray, List.set_cons_zero, List.set_cons_succ, i64_w, i32_w]
    rfl
  refine one_ (i := 20) (N := some 31) #[true, true, true, true, true, true, true, true, true, true, true, true, true, true, true, true, true, true, true, true, true, false, false] rfl rfl (by kernel_rfl) (by decide) (fun K hK => ?_)
  refine goes_ Try.func31 (by kernel_rfl) rfl #[.agg #[.slice Q0 rs'.length q0, .slice Q1 fs'.length q1], .agg #[.slice B0 rs'.length d0, .slice B1 fs'.length d1]] (by rfl) rfl rfl (by (try simp only [List.map_toArray, List.map_cons, List.map_nil]); first | done | rfl) ?_
  refine Calls.mono (K31y.out _ hHeld) ?_
  rintro e w15 ⟨rfl, hb⟩
  refine ⟨_, rfl, ?_⟩
  have HS15 := Aside0.mk (below_step hHeld hb)
  refine hK.out _ _ HS15.out (fun hHeld => ?_)
  clear hK K hb
  refine norm_ (a' := ?_) ?_ ?_
  rotate_left
  · show Act.put _ (some 31) _ = _
    simp only [Act.put, List.setIfInBounds_toArray, List.set_cons_zero, List.set_cons_succ, i64_w, i32_w]
    rfl
  refine pure_ (i := 21) (N := some 32) (v := ?_) (a' := ?_) #[true, true, true, true, true, true, true, true, true, true, true, true, true, true, true, true, true, true, true, true, true, true, false] rfl rfl (by kernel_rfl) (fun _ _ _ h => h) (Or.inl ⟨by rfl, ?_⟩) ?_ ?_
  rotate_left
  · intro w'
    go_simp
    with_reducible rfl
  rotate_left
  · simp only [Act.put, List.setIfInBounds_toArray, List.set_cons_zero, List.set_cons_succ, i64_w, i32_w]
    rfl
  refine pure_ (i := 22) (N := some 4) (v := ?_) (a' := ?_) #[true, true, true, true, true, true, true, true, true, true, true, true, true, true, true, true, true, true, true, true, true, true, true] rfl rfl (by kernel_rfl) (fun _ _ _ h => h) (Or.inl ⟨by rfl, ?_⟩) ?_ ?_
  rotate_left
  · intro w'
    go_simp
    with_reducible rfl
  rotate_left
  · simp only [Act.put, List.setIfInBounds_toArray, List.set_cons_zero, List.set_cons_succ, i64_w, i32_w]
    rfl
  refine done_ (by kernel_rfl) ?_
  go_wp2
  go_ret
  exact ⟨rfl, below_step HWF.out HS15.out⟩
end Go.Proofs.Ytblgcodkbapccaa.SamesWalk
