/- PROVED: provisoplain.Stmts makes a copy: the same data in memory of its own. Conditions: each list inside takes fewer bytes than the reach. -/
import Derived.Test.YtblgcodkbapccaaSamesCopy
namespace Go.Proofs.Ytblgcodkbapccaa.SamesWalk
open Go.RowKit Go.Proofs.Ytblgcodkbapccaa.PParseSames Go.Proofs.YtblgcodkbapccaaW.PrintWords Go.Proofs.YtblgcodkbapccaaW.PrintLast Go.Proofs.YtblgcodkbapccaaW.PrintMore
attribute [local go_sem] max2_int min2_int max_two min_two max_three min_three max_four min_four
set_option linter.unusedVariables false
set_option linter.unusedSimpArgs false

/-- Each list inside is within the reach. -/
inductive FitS : S109 → Prop
  | mk (x : S109) (h5 : x.f5.length * 88 ≤ 140737488355328) (hk5 : ∀ z ∈ x.f5, FitE z) (h6 : x.f6.length * 144 ≤ 140737488355328) (hk6 : ∀ z ∈ x.f6, FitS z) (h7 : x.f7.length * 144 ≤ 140737488355328) (hk7 : ∀ z ∈ x.f7, FitS z) : FitS x
def St54 (n : Nat) : Prop := ∀ (l : List S109), l.length * 144 ≤ 140737488355328 → (∀ z ∈ l, FitS z) → (∀ z ∈ l, SizeOf.sizeOf z ≤ n) → ∀ (A : Option Addr) (c : Nat) (w : World), Kd.C k109 w A l.length l →
  Calls Try.prog 54 #[.slice A l.length c] w fun e w' => ∃ v : Value, e = .returned v ∧ Kd.R k109 109 w' w.heap.size (fun _ => True) v l ∧ Below w.heap.size w w'

set_option maxHeartbeats 8000000 in
set_option maxRecDepth 100000 in
theorem wrap54 (n : Nat) (ih : ∀ q, n = q + 1 → St54 q) : St54 n := by
  intro l0 hlen0 hfit hsz A0 c0 w hr0
  have HB := Aside0.mk (Below.refl w.heap.size w)
  have HC := Aside0.mk hr0
  have HL := Aside0.mk hlen0
  have HFIT := Aside0.mk hfit
  have HSS := Aside0.mk hsz
  have HIH := Aside0.mk ih
  have hlen : l0.length ≤ 9223372036854775807 := hr0.2.1
  clear hr0 hlen0 hfit hsz ih
  have hz := zv109
  have hz1 := zv111
  go_enter Try.func54, Try.ntmps54
  go_wp2
  go_loopw [3, 11] (fun vo i wr => ∃ (k : Nat) (v : Value), k ≤ l0.length ∧ vo = v ∧ i = .int .i64 k ∧ Aside0 (Kd.R k109 109 wr w.heap.size (fun _ => True) v (l0.take k)) ∧ Aside0 (Below w.heap.size w wr)) (fun _ i _ => l0.length - (intOf i).toNat)
  case atStart => exact ⟨0, .slice none 0 0, Nat.zero_le _, rfl, rfl, ⟨Kd.R_nil _ _ _ _ _⟩, HB⟩
  case round =>
    clear HB
    obtain ⟨k, v, hk, hvo, rfl, HV, HB⟩ := hrel
    have hvo2 := hvo.symm
    subst hvo2
    clear hvo
    by_cases hlt : k < l0.length
    · obtain ⟨ad, cs, e, hK, hx⟩ := elem_at (Kd.C_below HC.out HB.out) k hlt
      subst e
      have hsz := HSS.out l0[k] (List.getElem_mem hlt)
      have hfx := HFIT.out l0[k] (List.getElem_mem hlt)
      have HTK0 := Aside0.mk (show l0.take (k + 1) = l0.take k ++ [l0[k]] from List.take_succ_eq_append_getElem hlt)
      have HLK0 := Aside0.mk (show ((l0.take k).length + 1) * 144 ≤ 140737488355328 by have := HL.out; rw [List.length_take]; omega)
      obtain ⟨x, hxe⟩ : ∃ x, l0[k] = x := ⟨_, rfl⟩
      rw [hxe] at hK hsz hfx HTK0
      obtain ⟨q, hq⟩ : ∃ q, n = q + 1 := ⟨n - 1, by have := pos109 x; omega⟩
      have HSZ := Aside0.mk (show SizeOf.sizeOf x ≤ q + 1 by omega)
      have HIQ := Aside0.mk (HIH.out q hq)
      have HFE := Aside0.mk (show x.f5.length * 88 ≤ 140737488355328 ∧ ∀ z ∈ x.f5, FitE z by cases hfx; exact ⟨by assumption, by assumption⟩)
      have HFX := Aside0.mk (show x.f6.length * 144 ≤ 140737488355328 ∧ (∀ z ∈ x.f6, FitS z) ∧ x.f7.length * 144 ≤ 140737488355328 ∧ (∀ z ∈ x.f7, FitS z) by cases hfx; exact ⟨by assumption, by assumption, by assumption, by assumption⟩)
      obtain ⟨A5, c5, A6, c6, A7, c7, hcs, l5, g5, l6, g6, l7, g7⟩ := k109_open hK
      subst hcs
      have hlen5 : x.f5.length ≤ 9223372036854775807 := g5.2.1
      have HX := Aside0.mk (show ∀ j v, [.int .i64 x.f0, .int .i64 x.f1, .string x.f2, .string x.f3, .int .i64 x.f4, .slice A5 x.f5.length c5, .slice A6 x.f6.length c6, .slice A7 x.f7.length c7, .int .u8 x.f8, .int .i64 x.f9][j]? = some v → wr.cell? ((ad.add (k * 10)).add j) = some v from hx)
      have G5 := Aside0.mk g5
      have G6 := Aside0.mk g6
      have G7 := Aside0.mk g7
      clear hx hK hxe hsz hfx hq g5 g6 g7 l5 l6 l7
      go_upto_region 5 with (first | ((with_reducible refine gate_dst (N := 14) rfl ?_); refine load_event rfl 109 (.tmp 13) rfl (ad.add (k * 10)) ?ev [.int .i64 x.f0, .int .i64 x.f1, .string x.f2, .string x.f3, .int .i64 x.f4, .slice A5 x.f5.length c5, .slice A6 x.f6.length c6, .slice A7 x.f7.length c7, .int .u8 x.f8, .int .i64 x.f9] _ 10 HX.out Try.underlying109 rfl size109 rfl ?_; (case ev => first | rfl | (go_simp; done) | (go_simp; rfl))) | ((with_reducible refine gate_dst (N := 5) rfl ?_); refine box_event ?hg (N := 5) ?hd (cs := z_109.toArray) (t := 109) ?hr ?_; (case hd => rfl); (case hg => rfl); (case hr => first | (go_simp; done) | (go_simp; rfl)); intro gs hgs w5 hbox hb; have BS5 := Aside0.mk hbox; have HGS := Aside0.mk (show wr.heap.size ≤ gs by rw [hgs]; exact Nat.le_refl _); have HS5 := Aside0.mk hb; clear hb hbox hgs) | (refine store_event (w0 := wr) (base := wr.heap.size) (c' := [.int .i64 x.f0, .int .i64 x.f1, .string x.f2, .string x.f3, .int .i64 x.f4, .slice A5 x.f5.length c5, .slice A6 x.f6.length c6, .slice A7 x.f7.length c7, .int .u8 x.f8, .int .i64 x.f9]) rfl (ty := 109) (p := .tmp 5) (v := .tmp 14) rfl rfl rfl BS5.out size109 rfl rfl (by intro u hu; simp at hu; rcases hu with rfl | rfl | rfl | rfl | rfl | rfl | rfl | rfl | rfl | rfl <;> rfl) HS5.out HGS.out ?_; intro w6 hbc hb6 hoth hsz; have BS6 := Aside0.mk hbc; have HS6 := Aside0.mk hb6; clear hbc hb6 hoth hsz))
      (try simp only [Act.put, List.setIfInBounds_toArray, List.set_cons_zero, List.set_cons_succ])
      go_upto_region 6 with (first | ((with_reducible refine gate_dst (N := 15) rfl ?_); refine load_event rfl 109 (.tmp 5) rfl ⟨gs, 0, none⟩ rfl [.int .i64 x.f0, .int .i64 x.f1, .string x.f2, .string x.f3, .int .i64 x.f4, .slice A5 x.f5.length c5, .slice A6 x.f6.length c6, .slice A7 x.f7.length c7, .int .u8 x.f8, .int .i64 x.f9] _ 10 (blk_row BS6.out) Try.underlying109 rfl size109 rfl ?_) | ((with_reducible refine gate_dst (N := 6) rfl ?_); refine box_event ?hg (N := 6) ?hd (cs := z_109.toArray) (t := 109) ?hr ?_; (case hd => rfl); (case hg => rfl); (case hr => first | (go_simp; done) | (go_simp; rfl)); intro gx hgx w7 hbox hb; have BX7 := Aside0.mk hbox; have BS7 := Aside0.mk (blk_below BS6.out hb); have HGX := Aside0.mk (show wr.heap.size ≤ gx by rw [hgx]; exact below_size HS6.out); have HNE := Aside0.mk (show gs ≠ gx by rw [hgx]; exact Nat.ne_of_lt (blk_lt BS6.out)); have HS7 := Aside0.mk (below_step HS6.out hb); clear hb hbox hgx) | (refine store_event (w0 := wr) (base := wr.heap.size) (c' := [.int .i64 x.f0, .int .i64 x.f1, .string x.f2, .string x.f3, .int .i64 x.f4, .slice A5 x.f5.length c5, .slice A6 x.f6.length c6, .slice A7 x.f7.length c7, .int .u8 x.f8, .int .i64 x.f9]) rfl (ty := 109) (p := .tmp 6) (v := .tmp 15) rfl rfl rfl BX7.out size109 rfl rfl (by intro u hu; simp at hu; rcases hu with rfl | rfl | rfl | rfl | rfl | rfl | rfl | rfl | rfl | rfl <;> rfl) HS7.out HGX.out ?_; intro w8 hbc hb8 hoth hsz; have BX8 := Aside0.mk hbc; have BS8 := Aside0.mk ((hoth gs HNE.out).trans BS7.out); have HS8 := Aside0.mk hb8; clear hbc hb8 hoth hsz))
      (try simp only [Act.put, List.setIfInBounds_toArray, List.set_cons_zero, List.set_cons_succ])
      have hx5 : w8.cell? ⟨gx, 5, none⟩ = some (.slice A5 x.f5.length c5) := (blk_cell BX8.out 5).trans rfl
      have hf5 := blk_frozen BX8.out 5
      have hs5 : w8.cell? ⟨gs, 5, none⟩ = some (.slice A5 x.f5.length c5) := (blk_cell BS8.out 5).trans rfl
      have hneq := HNE.out
      go_wp2
      clear hneq
      obtain ⟨wq, hwq⟩ : ∃ wq, wr = wq := ⟨_, rfl⟩
      rw [hwq] at HS8 HB G5 G6 G7 HGS HGX HV
      clear hwq HX BS5 BS6 BS7 BX7 HS5 HS6 HS7
      have HF8 := Aside0.mk (And.intro (blk_put BX8.out 5 (.slice none 0 0) rfl) (And.intro ((heap_other w8 gx gs (.slice none 0 0) 5 HNE.out).trans BS8.out) (below_set (j := 5) (v := .slice none 0 0) HS8.out HGX.out)))
      go_loopw [20] (fun i wr => ∃ (i' : Nat) (u : Value), i' ≤ x.f5.length ∧ i = .int .i64 i' ∧ Aside0 (Kd.R k111 111 wr wq.heap.size (fun j => j ≠ gs ∧ j ≠ gx) u (x.f5.take i')) ∧ Aside0 (wr.heap[gs]? = some (.cells #[.int .i64 x.f0, .int .i64 x.f1, .string x.f2, .string x.f3, .int .i64 x.f4, .slice A5 x.f5.length c5, .slice A6 x.f6.length c6, .slice A7 x.f7.length c7, .int .u8 x.f8, .int .i64 x.f9] 109 (0, 0))) ∧ Aside0 (wr.heap[gx]? = some (.cells #[.int .i64 x.f0, .int .i64 x.f1, .string x.f2, .string x.f3, .int .i64 x.f4, u, .slice A6 x.f6.length c6, .slice A7 x.f7.length c7, .int .u8 x.f8, .int .i64 x.f9] 109 (0, 0))) ∧ Aside0 (Below wq.heap.size wq wr)) (fun i _ => x.f5.length - (intOf i).toNat)
      case atStart => exact ⟨0, .slice none 0 0, Nat.zero_le _, rfl, ⟨Kd.R_nil _ _ _ _ _⟩, ⟨HF8.out.2.1⟩, ⟨HF8.out.1⟩, ⟨HF8.out.2.2⟩⟩
      case round =>
        clear hx5 hf5 hs5 BX8 BS8 HS8 HF8
        obtain ⟨i, u, hi, rfl, HR, BS, BX, HS⟩ := hrel
        by_cases hlti : i < x.f5.length
        · obtain ⟨ae, ces, e, hK, hx⟩ := elem_at (Kd.C_below G5.out HS.out) i hlti
          subst e
          have HN := Aside0.mk (show ces.length = 8 from k111.K_len hK)
          have HO := Aside0.mk (k111.K_one hK)
          have HX := Aside0.mk (show ∀ j v, ces[j]? = some v → wr.cell? ((ae.add (i * 8)).add j) = some v from hx)
          have HKK := Aside0.mk hK
          have HCALL := Aside0.mk (expr77 (HFE.out.2 x.f5[i] (List.getElem_mem hlti)) ces)
          have HTK := Aside0.mk (show x.f5.take (i + 1) = x.f5.take i ++ [x.f5[i]] from List.take_succ_eq_append_getElem hlti)
          have HLK := Aside0.mk (show ((x.f5.take i).length + 1) * 88 ≤ 140737488355328 by have := HFE.out.1; rw [List.length_take]; omega)
          obtain ⟨y, hye⟩ : ∃ y, x.f5[i] = y := ⟨_, rfl⟩
          rw [hye] at HKK HCALL HTK
          clear hx hK hye
          go_upto_region 10 with (first | ((with_reducible refine gate_dst (N := 23) rfl ?_); refine load_event rfl 111 (.tmp 22) rfl (ae.add (i * 8)) ?ev ces _ 8 HX.out Try.underlying111 rfl size111 HN.out ?_; (case ev => first | rfl | (go_simp; done) | (go_simp; rfl))) | ((with_reducible refine gate_dst (N := 8) rfl ?_); refine box_event ?hg (N := 8) ?hd (cs := z_111.toArray) (t := 111) ?hr ?_; (case hd => rfl); (case hg => rfl); (case hr => first | (go_simp; done) | (go_simp; rfl)); intro ge hge w5 hbox hb; have BK5 := Aside0.mk hbox; have HGE := Aside0.mk (show wr.heap.size ≤ ge by rw [hge]; exact Nat.le_refl _); have HS5 := Aside0.mk hb; clear hb hbox hge) | (refine store_event (w0 := wr) (base := wr.heap.size) rfl (ty := 111) (p := .tmp 8) (v := .tmp 23) rfl rfl rfl BK5.out size111 HN.out rfl HO.out HS5.out HGE.out ?_; intro w6 hbc hb6 hoth hsz; have BK6 := Aside0.mk hbc; have HT6 := Aside0.mk hb6; clear hbc hb6 hoth hsz))
          (try simp only [Act.put, List.setIfInBounds_toArray, List.set_cons_zero, List.set_cons_succ])
          have BX6 := Aside0.mk (blk_below BX.out HT6.out)
          have BS6 := Aside0.mk (blk_below BS.out HT6.out)
          have HR6 := Aside0.mk (Kd.R_below HR.out HT6.out)
          have HB6 := Aside0.mk (below_step HS.out HT6.out)
          have HS6 := Aside0.mk True.intro
          have HVL := Aside0.mk (show ∀ j, u.ownBlock = some j → j < wr.heap.size from Kd.R_lt HR.out)
          have hv6 : w6.cell? ⟨gx, 5, none⟩ = some u := (blk_cell BX6.out 5).trans rfl
          refine start_ (n := 8) (S := fun w' => w'.heap[gx]? = some (.cells #[.int .i64 x.f0, .int .i64 x.f1, .string x.f2, .string x.f3, .int .i64 x.f4, u, .slice A6 x.f6.length c6, .slice A7 x.f7.length c7, .int .u8 x.f8, .int .i64 x.f9] 109 (0, 0)) ∧ w'.heap[ge]? = some (.cells ces.toArray 111 (0, 0))) (ds := [7]) #[false, false, false, false, false, false, false, false] (by kernel_rfl) rfl rfl ⟨BX6.out, BK6.out⟩ (fun hHeld => ?_)
          have BS7 := Aside0.mk (show w6.drew.heap[gs]? = _ from BS6.out)
          have HR7 := Aside0.mk (Kd.R_drew HR6.out)
          have HT7 := Aside0.mk (below_drew1 HT6.out)
          have HB7 := Aside0.mk (below_drew1 HB6.out)
          clear hv6 BX6 BS6 HR6 HB6 HT6 HS6 BK6
          generalize w6.drew = w7 at BS7 HR7 HT7 HB7 hHeld ⊢
          refine pure_ (i := 0) (N := some 24) (v := ?_) (a' := ?_) #[true, false, false, false, false, false, false, false] rfl rfl (by kernel_rfl) (fun _ _ _ h => h) (Or.inl ⟨by rfl, ?_⟩) ?_ ?_
          rotate_left
          · intro w'
            go_simp
            with_reducible rfl
          rotate_left
          · simp only [Act.put, List.setIfInBounds_toArray, List.set_cons_zero, List.set_cons_succ, i64_w, i32_w]
            rfl
          refine take_ (i := 1) (N := some 25) (v := ?_) (a' := ?_) #[true, true, false, false, false, false, false, false] rfl rfl (by kernel_rfl) (fun _ _ _ h => h) (Or.inl ⟨by rfl, ?_⟩) hHeld ?_ ?_
          rotate_left
          · intro w' hS
            have hrd : w'.cell? ⟨gx, 5, none⟩ = some u := (blk_cell hS.1 5).trans rfl
            go_simp
            with_reducible rfl
          rotate_left
          · simp only [Act.put, List.setIfInBounds_toArray, List.set_cons_zero, List.set_cons_succ, i64_w, i32_w]
            rfl
          refine take_ (i := 2) (N := some 26) (v := .agg ces.toArray) (a' := ?_) #[true, true, true, false, false, false, false, false] rfl rfl (by kernel_rfl) (fun _ _ _ h => h) (Or.inl ⟨by rfl, fun w' hS => exec_load (P := Try.prog) (ty := 111) (x := .tmp 8) rfl (show (Instr.loadAt 111 (.pointer (some ⟨ge, 0, none⟩))).run Try.prog w' = _ from load_run (blk_row hS.2) Try.underlying111 rfl size111 HN.out)⟩) hHeld ?_ ?_
          rotate_left
          · simp only [Act.put, List.setIfInBounds_toArray, List.set_cons_zero, List.set_cons_succ, i64_w, i32_w]
            rfl
          refine one_ (i := 3) (N := some 27) #[true, true, true, true, false, false, false, false] rfl rfl (by kernel_rfl) (by decide) (fun K hK => ?_)
          refine goes_ Try.func77 (by kernel_rfl) rfl #[.agg ces.toArray] (by rfl) rfl rfl (by (try simp only [List.map_toArray, List.map_cons, List.map_nil]); first | done | rfl) ?_
          refine Calls.mono (HCALL.out w7 (k111.K_below HT7.out HKK.out)) ?_
          rintro e w8 ⟨ds, rfl, hM, hb⟩
          refine ⟨_, rfl, ?_⟩
          have hv := HVL.out
          have hsz7 := below_size HT7.out
          have hX7 := blk_lt hHeld.1
          have hS7 := blk_lt BS7.out
          have HM := Aside0.mk (show k111.M w8 wq.heap.size (fun j => (j ≠ gs ∧ j ≠ gx) ∧ some j ≠ u.ownBlock) y ds from k111.M_lower (below_size HB7.out) (k111.M_mono (fun j hj => ⟨⟨by have := hj.2.1; omega, by have := hj.2.1; omega⟩, fun e => by have h1 := hv j e.symm; have h2 := hj.2.1; omega⟩) (k111.M_bound hM)))
          have BX8 := Aside0.mk (blk_below hHeld.1 hb)
          have BK8 := Aside0.mk (blk_below hHeld.2 hb)
          have BS8 := Aside0.mk (blk_below BS7.out hb)
          have HR8 := Aside0.mk (Kd.R_below HR7.out hb)
          have HB8 := Aside0.mk (below_step HB7.out hb)
          refine hK.out _ _ ⟨BX8.out, BK8.out⟩ (fun hHeld8 => ?_)
          clear hK K hb hM hv hsz7 hX7 hS7 hHeld BS7 HR7 HT7 HB7
          obtain ⟨v4, hds, h4⟩ := k111_openM HM.out
          obtain ⟨Ao, co, rfl⟩ := Kd.R_slice h4
          subst hds
          clear h4
          refine norm_ (a' := ?_) ?_ ?_
          rotate_left
          · show Act.put _ (some 27) _ = _
            simp only [Act.put, List.setIfInBounds_toArray, List.set_cons_zero, List.set_cons_succ, i64_w, i32_w]
            rfl
          refine one_ (i := 4) (N := some 28) #[true, true, true, true, true, false, false, false] rfl rfl (by kernel_rfl) (by decide) (fun K hK => ?_)
          refine value_ (w1 := ?_) (v := ?_) (by rfl) rfl ?_ ?_
          rotate_left 2
          · go_simp
            constructor
            · rfl
            · rfl
          refine hK.out _ _ ⟨blk_alloc BX8.out _, blk_alloc BK8.out _⟩ (fun hHeld9 => ?_)
          clear hK K hHeld9
          refine norm_ (a' := ?_) ?_ ?_
          rotate_left
          · show Act.put _ (some 28) _ = _
            simp only [Act.put, List.setIfInBounds_toArray, List.set_cons_zero, List.set_cons_succ, i64_w, i32_w]
            rfl
          refine one_ (i := 5) (N := some 29) #[true, true, true, true, true, true, false, false] rfl rfl (by kernel_rfl) (by decide) (fun K hK => ?_)
          refine Kd.R_append_step k111 (w0 := wq) wq.heap.size (by rfl) (.tmp 25) (.tmp 28) 107 111 (.agg #[(.int .i64 0), (.int .i64 0), (.string ⟨#[]⟩), (.int .i64 0), (.slice none 0 0), (.int .u8 0), (.int .i64 0), (.int .i64 0)]) 88 rfl Try.underlying107 info111 rfl (by decide) (by omega) u (x.f5.take i) y [.int .i64 y.f0, .int .i64 y.f1, .string y.f2, .int .i64 y.f3, .slice Ao y.f4.length co, .int .u8 y.f5, .int .i64 y.f6, .int .i64 y.f7] (fun j => j ≠ gs ∧ j ≠ gx) (fun j => (j ≠ gs ∧ j ≠ gx) ∧ some j ≠ u.ownBlock) rfl rfl HM.out (fun _ hj => hj) (fun j hj => ⟨by have := blk_lt BS8.out; omega, by have := blk_lt BX8.out; omega⟩) HR8.out HB8.out (below_size HB8.out) HLK.out ?_
          intro v1 w9 hR9 hb9 hg hat
          rw [← HTK.out] at hR9
          obtain ⟨lk, hlk⟩ : ∃ lk, x.f5.take (i + 1) = lk := ⟨_, rfl⟩
          rw [hlk] at hR9
          have HLE := Aside0.mk hlk
          clear hlk
          have hne1 : some gs ≠ u.ownBlock := Kd.R_away HR8.out (fun _ hj => hj.1)
          have hne2 : some gx ≠ u.ownBlock := Kd.R_away HR8.out (fun _ hj => hj.2)
          have hne3 : some ge ≠ u.ownBlock := fun e => by have h1 := HVL.out ge e.symm; have h2 := HGE.out; omega
          have BS9 := Aside0.mk (blk_grown BS8.out hg hne1)
          have BX9 := Aside0.mk (blk_grown BX8.out hg hne2)
          have BK9 := Aside0.mk (blk_grown BK8.out hg hne3)
          have HR9 := Aside0.mk hR9
          have HB9 := Aside0.mk hb9
          obtain ⟨Av, cv, ev⟩ := Kd.R_slice hR9
          subst ev
          clear hR9 hb9 hg hat hne1 hne2 hne3 hHeld8
          refine hK.out _ _ ⟨BX9.out, BK9.out⟩ (fun hHeld9 => ?_)
          clear hK K hHeld9
          refine norm_ (a' := ?_) ?_ ?_
          rotate_left
          · show Act.put _ (some 29) _ = _
            simp only [Act.put, List.setIfInBounds_toArray, List.set_cons_zero, List.set_cons_succ, i64_w, i32_w]
            rfl
          refine pure_ (i := 6) (N := some 30) (v := ?_) (a' := ?_) #[true, true, true, true, true, true, true, false] rfl rfl (by kernel_rfl) (fun _ _ _ h => h) (Or.inl ⟨by rfl, ?_⟩) ?_ ?_
          rotate_left
          · intro w'
            go_simp
            with_reducible rfl
          rotate_left
          · simp only [Act.put, List.setIfInBounds_toArray, List.set_cons_zero, List.set_cons_succ, i64_w, i32_w]
            rfl
          refine last_ (i := 7) (N := none) #[true, true, true, true, true, true, true, true] rfl rfl (by kernel_rfl) (by decide) (fun K hK => ?_)
          have hs9 : w9.cell? ⟨gx, 5, none⟩ = some u := (blk_cell BX9.out 5).trans rfl
          have hf9 := blk_frozen BX9.out 5
          refine skip_ (w1 := ?_) (by rfl) rfl ?_ ?_
          rotate_left
          · go_simp
            rfl
          refine hK.out _ _ ?_
          clear hK K
          refine done_ (by kernel_rfl) ?_
          clear hs9 hf9
          have HF := Aside0.mk (And.intro (Kd.R_far (p := ⟨gx, 5, none⟩) HR9.out (fun _ hj => hj.2) (.slice Av lk.length cv)) (And.intro (blk_put BX9.out 5 (.slice Av lk.length cv) rfl) (And.intro ((heap_other w9 gx gs (.slice Av lk.length cv) 5 HNE.out).trans BS9.out) (below_set (j := 5) (v := .slice Av lk.length cv) HB9.out HGX.out))))
          go_wp2
          go_roundw
          case rel => exact ⟨i + 1, .slice Av lk.length cv, by omega, by go_num, ⟨by rw [HLE.out]; exact HF.out.1⟩, ⟨HF.out.2.2.1⟩, ⟨HF.out.2.1⟩, ⟨HF.out.2.2.2⟩⟩
          case measure => simp [intOf]; omega
        · have hie : i = x.f5.length := by omega
          subst hie
          rw [List.take_length] at HR
          obtain ⟨Au, cu, eu⟩ := Kd.R_slice HR.out
          go_wp2_with fail
          have hcall6 := fun (W : World) (h : Below wq.heap.size wq W) => HIQ.out x.f6 HFX.out.1 HFX.out.2.1 (fun z hz => kid109a HSZ.out z hz) A6 c6 W (Kd.C_below G6.out h)
          have hcall7 := fun (W : World) (h : Below wq.heap.size wq W) => HIQ.out x.f7 HFX.out.2.2.1 HFX.out.2.2.2 (fun z hz => kid109b HSZ.out z hz) A7 c7 W (Kd.C_below G7.out h)
          have H6C := Aside0.mk hcall6
          have H7C := Aside0.mk hcall7
          clear hcall6 hcall7
          subst eu
          have HUL := Aside0.mk (show ∀ j, (Value.slice Au x.f5.length cu).ownBlock = some j → j < wr.heap.size from Kd.R_lt HR.out)
          refine start_ (n := 10) (S := fun w' => w'.heap[gs]? = some (.cells #[.int .i64 x.f0, .int .i64 x.f1, .string x.f2, .string x.f3, .int .i64 x.f4, .slice A5 x.f5.length c5, .slice A6 x.f6.length c6, .slice A7 x.f7.length c7, .int .u8 x.f8, .int .i64 x.f9] 109 (0, 0))) (ds := []) #[false, false, false, false, false, false, false, false, false, false] (by kernel_rfl) rfl rfl BS.out (fun hHeld => ?_)
          have BX7 := Aside0.mk (show wr.drew.heap[gx]? = _ from BX.out)
          have HR7 := Aside0.mk (Kd.R_drew HR.out)
          have HB7 := Aside0.mk (below_drew1 HS.out)
          clear BX BS HR HS
          generalize wr.drew = w7 at BX7 HR7 HB7 hHeld ⊢
          refine pure_ (i := 0) (N := some 32) (v := ?_) (a' := ?_) #[true, false, false, false, false, false, false, false, false, false] rfl rfl (by kernel_rfl) (fun _ _ _ h => h) (Or.inl ⟨by rfl, ?_⟩) ?_ ?_
          rotate_left
          · intro w'
            go_simp
            with_reducible rfl
          rotate_left
          · simp only [Act.put, List.setIfInBounds_toArray, List.set_cons_zero, List.set_cons_succ, i64_w, i32_w]
            rfl
          refine take_ (i := 1) (N := some 33) (v := ?_) (a' := ?_) #[true, true, false, false, false, false, false, false, false, false] rfl rfl (by kernel_rfl) (fun _ _ _ h => h) (Or.inl ⟨by rfl, ?_⟩) hHeld ?_ ?_
          rotate_left
          · intro w' hS
            have hrd : w'.cell? ⟨gs, 6, none⟩ = some (.slice A6 x.f6.length c6) := (blk_cell hS 6).trans rfl
            go_simp
            with_reducible rfl
          rotate_left
          · simp only [Act.put, List.setIfInBounds_toArray, List.set_cons_zero, List.set_cons_succ, i64_w, i32_w]
            rfl
          refine pure_ (i := 3) (N := some 35) (v := ?_) (a' := ?_) #[true, true, false, true, false, false, false, false, false, false] rfl rfl (by kernel_rfl) (fun _ _ _ h => h) (Or.inl ⟨by rfl, ?_⟩) ?_ ?_
          rotate_left
          · intro w'
            go_simp
            with_reducible rfl
          rotate_left
          · simp only [Act.put, List.setIfInBounds_toArray, List.set_cons_zero, List.set_cons_succ, i64_w, i32_w]
            rfl
          refine take_ (i := 4) (N := some 36) (v := ?_) (a' := ?_) #[true, true, false, true, true, false, false, false, false, false] rfl rfl (by kernel_rfl) (fun _ _ _ h => h) (Or.inl ⟨by rfl, ?_⟩) hHeld ?_ ?_
          rotate_left
          · intro w' hS
            have hrd : w'.cell? ⟨gs, 7, none⟩ = some (.slice A7 x.f7.length c7) := (blk_cell hS 7).trans rfl
            go_simp
            with_reducible rfl
          rotate_left
          · simp only [Act.put, List.setIfInBounds_toArray, List.set_cons_zero, List.set_cons_succ, i64_w, i32_w]
            rfl
          refine one_ (i := 2) (N := some 34) #[true, true, true, true, true, false, false, false, false, false] rfl rfl (by kernel_rfl) (by decide) (fun K hK => ?_)
          refine goes_ Try.func54 (by kernel_rfl) rfl #[.slice A6 x.f6.length c6] (by rfl) rfl rfl (by (try simp only [List.map_toArray, List.map_cons, List.map_nil]); first | done | rfl) ?_
          refine Calls.mono (H6C.out w7 HB7.out) ?_
          rintro e w8 ⟨v6, rfl, hR6, hb⟩
          refine ⟨_, rfl, ?_⟩
          have hX7 := blk_lt BX7.out
          have H68 := Aside0.mk (show Kd.R k109 109 w8 wq.heap.size (fun j => j ≠ gx) v6 x.f6 from Kd.R_lower (Kd.R_mono (Kd.R_bound hR6) (fun j hj => by have := hj.2.1; omega)) (below_size HB7.out))
          have BX8 := Aside0.mk (blk_below BX7.out hb)
          have HR8 := Aside0.mk (Kd.R_below HR7.out hb)
          have HB8 := Aside0.mk (below_step HB7.out hb)
          refine hK.out _ _ (blk_below hHeld hb) (fun hHeld8 => ?_)
          clear hK K hb hHeld BX7 HR7 HB7 hX7 hR6
          obtain ⟨B6, d6, e6⟩ := Kd.R_slice H68.out
          subst e6
          refine norm_ (a' := ?_) ?_ ?_
          rotate_left
          · show Act.put _ (some 34) _ = _
            simp only [Act.put, List.setIfInBounds_toArray, List.set_cons_zero, List.set_cons_succ, i64_w, i32_w]
            rfl
          refine pure_ (i := 6) (N := some 38) (v := ?_) (a' := ?_) #[true, true, true, true, true, false, true, false, false, false] rfl rfl (by kernel_rfl) (fun _ _ _ h => h) (Or.inl ⟨by rfl, ?_⟩) ?_ ?_
          rotate_left
          · intro w'
            go_simp
            with_reducible rfl
          rotate_left
          · simp only [Act.put, List.setIfInBounds_toArray, List.set_cons_zero, List.set_cons_succ, i64_w, i32_w]
            rfl
          refine one_ (i := 5) (N := some 37) #[true, true, true, true, true, true, true, false, false, false] rfl rfl (by kernel_rfl) (by decide) (fun K hK => ?_)
          refine goes_ Try.func54 (by kernel_rfl) rfl #[.slice A7 x.f7.length c7] (by rfl) rfl rfl (by (try simp only [List.map_toArray, List.map_cons, List.map_nil]); first | done | rfl) ?_
          refine Calls.mono (H7C.out w8 HB8.out) ?_
          rintro e w9 ⟨v7, rfl, hR7, hb⟩
          refine ⟨_, rfl, ?_⟩
          have hX8 := blk_lt BX8.out
          have H79 := Aside0.mk (show Kd.R k109 109 w9 wq.heap.size (fun j => j ≠ gx) v7 x.f7 from Kd.R_lower (Kd.R_mono (Kd.R_bound hR7) (fun j hj => by have := hj.2.1; omega)) (below_size HB8.out))
          have H69 := Aside0.mk (Kd.R_below H68.out hb)
          have BX9 := Aside0.mk (blk_below BX8.out hb)
          have HR9 := Aside0.mk (Kd.R_below HR8.out hb)
          have HB9 := Aside0.mk (below_step HB8.out hb)
          refine hK.out _ _ (blk_below hHeld8 hb) (fun hHeld9 => ?_)
          clear hK K hb hHeld8 BX8 HR8 HB8 hX8 hR7 H68
          obtain ⟨B7, d7, e7⟩ := Kd.R_slice H79.out
          subst e7
          refine norm_ (a' := ?_) ?_ ?_
          rotate_left
          · show Act.put _ (some 37) _ = _
            simp only [Act.put, List.setIfInBounds_toArray, List.set_cons_zero, List.set_cons_succ, i64_w, i32_w]
            rfl
          refine one_ (i := 7) (N := none) #[true, true, true, true, true, true, true, true, false, false] rfl rfl (by kernel_rfl) (by decide) (fun K hK => ?_)
          have hs6 : w9.cell? ⟨gx, 6, none⟩ = some (.slice A6 x.f6.length c6) := (blk_cell BX9.out 6).trans rfl
          have hf6 := blk_frozen BX9.out 6
          refine skip_ (w1 := ?_) (by rfl) rfl ?_ ?_
          rotate_left
          · go_simp
            rfl
          have hgs6 : (w9.setCell ⟨gx, 6, none⟩ (.slice B6 x.f6.length d6)).heap[gs]? = w9.heap[gs]? := heap_other w9 gx gs (.slice B6 x.f6.length d6) 6 HNE.out
          refine hK.out _ _ (hgs6.trans hHeld9) (fun hHeld10 => ?_)
          clear hK K hs6 hf6 hHeld9 hgs6
          have BX10 := Aside0.mk (blk_put BX9.out 6 (.slice B6 x.f6.length d6) rfl)
          have HR10 := Aside0.mk (Kd.R_far (p := ⟨gx, 6, none⟩) HR9.out (fun _ hj => hj.2) (.slice B6 x.f6.length d6))
          have H610 := Aside0.mk (Kd.R_far (p := ⟨gx, 6, none⟩) H69.out (fun _ hj => hj) (.slice B6 x.f6.length d6))
          have H710 := Aside0.mk (Kd.R_far (p := ⟨gx, 6, none⟩) H79.out (fun _ hj => hj) (.slice B6 x.f6.length d6))
          have HB10 := Aside0.mk (below_set (j := 6) (v := .slice B6 x.f6.length d6) HB9.out HGX.out)
          clear BX9 HR9 H69 H79 HB9
          generalize w9.setCell ⟨gx, 6, none⟩ (.slice B6 x.f6.length d6) = w10 at BX10 HR10 H610 H710 HB10 hHeld10 ⊢
          simp only [List.setIfInBounds_toArray, List.set_cons_zero, List.set_cons_succ] at BX10
          refine pure_ (i := 8) (N := some 39) (v := ?_) (a' := ?_) #[true, true, true, true, true, true, true, true, true, false] rfl rfl (by kernel_rfl) (fun _ _ _ h => h) (Or.inl ⟨by rfl, ?_⟩) ?_ ?_
          rotate_left
          · intro w'
            go_simp
            with_reducible rfl
          rotate_left
          · simp only [Act.put, List.setIfInBounds_toArray, List.set_cons_zero, List.set_cons_succ, i64_w, i32_w]
            rfl
          refine one_ (i := 9) (N := none) #[true, true, true, true, true, true, true, true, true, true] rfl rfl (by kernel_rfl) (by decide) (fun K hK => ?_)
          have hs7 : w10.cell? ⟨gx, 7, none⟩ = some (.slice A7 x.f7.length c7) := (blk_cell BX10.out 7).trans rfl
          have hf7 := blk_frozen BX10.out 7
          refine skip_ (w1 := ?_) (by rfl) rfl ?_ ?_
          rotate_left
          · go_simp
            rfl
          have hgs7 : (w10.setCell ⟨gx, 7, none⟩ (.slice B7 x.f7.length d7)).heap[gs]? = w10.heap[gs]? := heap_other w10 gx gs (.slice B7 x.f7.length d7) 7 HNE.out
          refine hK.out _ _ (hgs7.trans hHeld10) (fun hHeld11 => ?_)
          clear hK K hs7 hf7 hHeld10 hgs7
          have BX11 := Aside0.mk (blk_put BX10.out 7 (.slice B7 x.f7.length d7) rfl)
          have HR11 := Aside0.mk (Kd.R_far (p := ⟨gx, 7, none⟩) HR10.out (fun _ hj => hj.2) (.slice B7 x.f7.length d7))
          have H611 := Aside0.mk (Kd.R_far (p := ⟨gx, 7, none⟩) H610.out (fun _ hj => hj) (.slice B7 x.f7.length d7))
          have H711 := Aside0.mk (Kd.R_far (p := ⟨gx, 7, none⟩) H710.out (fun _ hj => hj) (.slice B7 x.f7.length d7))
          have HB11 := Aside0.mk (below_set (j := 7) (v := .slice B7 x.f7.length d7) HB10.out HGX.out)
          clear BX10 HR10 H610 H710 HB10 hHeld11
          generalize w10.setCell ⟨gx, 7, none⟩ (.slice B7 x.f7.length d7) = w11 at BX11 HR11 H611 H711 HB11 ⊢
          simp only [List.setIfInBounds_toArray, List.set_cons_zero, List.set_cons_succ] at BX11
          refine done_ (by kernel_rfl) ?_
          have HBW := Aside0.mk (below_step HB.out HB11.out)
          have HV11 := Aside0.mk (Kd.R_below HV.out HB11.out)
          have hvl := Kd.R_lt HV.out
          have HM := Aside0.mk (show k109.M w11 w.heap.size (fun j => True ∧ some j ≠ v.ownBlock) x [.int .i64 x.f0, .int .i64 x.f1, .string x.f2, .string x.f3, .int .i64 x.f4, .slice Au x.f5.length cu, .slice B6 x.f6.length d6, .slice B7 x.f7.length d7, .int .u8 x.f8, .int .i64 x.f9] from k109.M_lower (below_size HB.out) (k109_mkM w11 wq.heap.size _ x
            (Kd.R_mono (Kd.R_bound HR11.out) (fun j hj => ⟨trivial, fun e => by have h1 := hvl j e.symm; have h2 := hj.2.1; omega⟩))
            (Kd.R_mono (Kd.R_bound H611.out) (fun j hj => ⟨trivial, fun e => by have h1 := hvl j e.symm; have h2 := hj.2.1; omega⟩))
            (Kd.R_mono (Kd.R_bound H711.out) (fun j hj => ⟨trivial, fun e => by have h1 := hvl j e.symm; have h2 := hj.2.1; omega⟩))))
          clear hvl
          go_wp2_with (first | ((with_reducible refine gate_dst (N := 41) rfl ?_); refine load_event rfl 109 (.tmp 6) rfl ⟨gx, 0, none⟩ rfl [.int .i64 x.f0, .int .i64 x.f1, .string x.f2, .string x.f3, .int .i64 x.f4, .slice Au x.f5.length cu, .slice B6 x.f6.length d6, .slice B7 x.f7.length d7, .int .u8 x.f8, .int .i64 x.f9] _ 10 (blk_row BX11.out) Try.underlying109 rfl size109 rfl ?_) | ((with_reducible refine gate_builtin (b := .append) (xs := #[.tmp 40, .tmp 42]) rfl ?_); at_builtin; refine Kd.R_append k109 (w0 := w) w.heap.size rfl (.tmp 40) (.tmp 42) 81 109 (.agg #[(.int .i64 0), (.int .i64 0), (.string ⟨#[]⟩), (.string ⟨#[]⟩), (.int .i64 0), (.slice none 0 0), (.slice none 0 0), (.slice none 0 0), (.int .u8 0), (.int .i64 0)]) 144 rfl Try.underlying81 info109 rfl (by decide) (by omega) v (l0.take k) x [.int .i64 x.f0, .int .i64 x.f1, .string x.f2, .string x.f3, .int .i64 x.f4, .slice Au x.f5.length cu, .slice B6 x.f6.length d6, .slice B7 x.f7.length d7, .int .u8 x.f8, .int .i64 x.f9] (fun _ => True) (fun j => True ∧ some j ≠ v.ownBlock) rfl rfl HM.out (fun _ hj => hj) (fun _ _ => trivial) HV11.out HBW.out (below_size HBW.out) HLK0.out ?_; intro v1 w12 hR12 hb12 hg12 hat12; rw [← HTK0.out] at hR12; have HR12 := Aside0.mk hR12; have HB12 := Aside0.mk hb12; clear hR12 hb12 hg12 hat12))
          go_roundw
          case rel => exact ⟨k + 1, v1, by omega, rfl, by go_num, HR12, HB12⟩
          case measure => simp [intOf]; omega
    · have hke : k = l0.length := by omega
      subst hke
      rw [List.take_length] at HV
      obtain ⟨Av, cv, ev⟩ := Kd.R_slice HV.out
      subst ev
      go_wp2
      go_ret
      exact ⟨_, rfl, HV.out, HB.out⟩
theorem stmts54 : ∀ n, St54 n
  | 0 => wrap54 0 (fun q hq => by omega)
  | n + 1 => wrap54 (n + 1) (fun q hq => by
    obtain rfl : n = q := by omega
    exact stmts54 n)
end Go.Proofs.Ytblgcodkbapccaa.SamesWalk
