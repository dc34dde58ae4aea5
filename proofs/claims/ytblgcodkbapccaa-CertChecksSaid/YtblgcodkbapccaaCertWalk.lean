/- PROVED: what the functions that the law CertChecks reaches do, step by step. Conditions: each slice within its reach; an entry's row of slots has 24 places. -/
import Derived.Test.YtblgcodkbapccaaPCertChecksx1
import Derived.WalkSpells
import Derived.Deep.MidRow
import Derived.Deep.WholeRow
import Derived.DeepKeys
namespace Go.Proofs.Ytblgcodkbapccaa.CertWalk
open Go.RowKit Go.Proofs.Ytblgcodkbapccaa.PCertChecks Go.Proofs.YtblgcodkbapccaaW.PrintWords Go.Proofs.YtblgcodkbapccaaW.PrintLast Go.Proofs.YtblgcodkbapccaaW.PrintMore
attribute [local go_sem] max2_int min2_int max_two min_two max_three min_three max_four min_four
set_option linter.unusedVariables false
set_option linter.unusedSimpArgs false

/-- An entry: address, dead, the frame's locals and height, its slots. -/
structure Ent where
  ad : Int
  dead : Bool
  loc : Int
  hgt : Int
  sl : List Int
/-- A frame's cells. -/
def frameCells (loc hgt : Int) (sl : List Int) : List Value := .int .i64 loc :: .int .i64 hgt :: sl.map (Value.int .u8)
def Ent.cells (x : Ent) : List Value := .int .i64 x.ad :: .bool x.dead :: frameCells x.loc x.hgt x.sl
theorem frameCells_len (loc hgt : Int) (sl : List Int) : (frameCells loc hgt sl).length = sl.length + 2 := by simp [frameCells]
theorem frameCells_one (loc hgt : Int) (sl : List Int) : ∀ u ∈ frameCells loc hgt sl, u.oneCell' = true := by
  intro u hu
  simp only [frameCells, List.mem_cons, List.mem_map] at hu
  rcases hu with rfl | rfl | ⟨a, _, rfl⟩ <;> rfl
theorem Ent.cells_one (x : Ent) : ∀ u ∈ x.cells, u.oneCell' = true := by
  intro u hu
  simp only [Ent.cells, List.mem_cons] at hu
  rcases hu with rfl | rfl | hu
  · rfl
  · rfl
  · exact frameCells_one _ _ _ u hu
/-- Entries as a kind of element. -/
def kE : Kd Ent where
  sz := 28
  E := []
  K := fun _ x cs => x.sl.length = 24 ∧ cs = x.cells
  M := fun _ _ _ x cs => x.sl.length = 24 ∧ cs = x.cells
  K_len := fun h => by rw [h.2]; simp [Ent.cells, frameCells_len, h.1]
  K_one := fun h => by rw [h.2]; exact Ent.cells_one _
  K_below := fun _ h => h
  K_of_M := fun h => h
  M_mono := fun _ h => h
  M_bound := fun h => h
  M_move := fun _ h => h
  M_lower := fun _ h => h
theorem kE_KM {w : World} {base : Nat} {x : Ent} {cs : List Value} (h : kE.K w x cs) : kE.M w base (fun _ => False) x cs := h

theorem info99 : (Try.prog.info? 99).map (fun i => (i.zero, i.size, i.bytes)) = some (some (.agg (Ent.cells ⟨0, false, 0, 0, List.replicate 24 0⟩).toArray), 28, 56) := by kernel_rfl
theorem size99 : (Try.prog.info? 99).map (·.size) = some 28 := by kernel_rfl
theorem size97 : (Try.prog.info? 97).map (·.size) = some 26 := by kernel_rfl

set_option maxHeartbeats 8000000 in
set_option maxRecDepth 100000 in
theorem clone_calls (A0 : Option Addr) (c0 : Nat) (l0 : List Ent) (w : World) (hr0 : Kd.C kE w A0 l0.length l0) (hl : l0.length * 56 ≤ 140737488355328) :
    Calls Try.prog 69 #[.slice A0 l0.length c0] w fun e w' => ∃ v0_ : Value, e = .returned v0_ ∧ Kd.R kE 99 w' w.heap.size (fun _ => True) v0_ l0 ∧ Below w.heap.size w w' := by
  have HB := Aside0.mk (Below.refl w.heap.size w)
  have HR0 := Aside0.mk hr0
  have HL := Aside0.mk hl
  clear hr0 hl
  cases A0 with
  | none =>
    have h0 : l0.length = 0 := by
      rcases Nat.eq_zero_or_pos l0.length with h0 | h0
      · exact h0
      · obtain ⟨ad, h, _⟩ := HR0.out.2.2 h0
        cases h
    have hn : l0 = [] := List.eq_nil_of_length_eq_zero h0
    subst hn
    have he := fun W : World => Lib.run_eql_slice_nil (P := Try.prog) W 49 99 none 0 c0 0 0 Try.underlying49
    simp only [Option.isNone_none] at he
    go_enter Try.func69, Try.ntmps69
    go_wp2
    go_ret
    exact ⟨_, rfl, Kd.R_nil _ _ _ _ _, HB.out⟩
  | some ad =>
    have he := fun W : World => Lib.run_eql_slice_nil (P := Try.prog) W 49 99 (some ad) l0.length c0 0 0 Try.underlying49
    simp only [Option.isNone_some] at he
    go_enter Try.func69, Try.ntmps69
    go_wp2_with (first | ((with_reducible refine gate_dst (N := 5) rfl ?_); refine Kd.R_lit kE (w0 := w) w.heap.size 99 ?hg (N := 5) ?hd (xs := ([] : List Ent)) (inner := []) (ok := fun _ => True) (okp := fun _ => False) ?hr ?hp (fun _ _ => trivial) trivial HB.out (Nat.le_refl _) (by simp) ?_; (case hd => rfl); (case hg => rfl); (case hr => first | (go_simp; done) | (go_simp; rfl)); (case hp => exact Reps.none _ _); intro v5 w5 ho hb hg_ hnew_; have HO := Aside0.mk ho; have HB2 := Aside0.mk hb; clear ho hb hg_ hnew_; obtain ⟨Ao, co, eo⟩ := Kd.R_slice HO.out; subst eo) | ((with_reducible refine gate_builtin (b := .append) (xs := #[.tmp 5, .tmp 6]) rfl ?_); at_builtin; refine Kd.R_append_rows kE (w0 := w) w.heap.size rfl (.tmp 5) (.tmp 6) 49 99 (.agg (Ent.cells ⟨0, false, 0, 0, List.replicate 24 0⟩).toArray) 56 rfl Try.underlying49 info99 rfl (by decide) (by omega) (.slice Ao ([] : List Ent).length co) [] l0 _ _ _ (fun _ => True) (fun _ => False) rfl rfl HO.out (Kd.C_below HR0.out HB2.out) (fun _ _ h => kE_KM h) (fun _ h => h.elim) (fun _ _ => trivial) HB2.out (below_size HB2.out) (by have := HL.out; simp; omega) ?_; intro v7 w7 ho hb hg hat; have HO7 := Aside0.mk ho; have HB7 := Aside0.mk hb; clear ho hb hg hat))
    go_ret
    exact ⟨_, rfl, by simpa using HO7.out, HB7.out⟩

/-- Is a number a type's code? -/
def isCode (t : Int) : Bool := decide (t ≤ 5) || (decide (16 ≤ t) && decide (t < 48))
theorem known_f (t : Int) : cert_known.f t = some (isCode t) := by
  unfold cert_known.f isCode
  by_cases h : t ≤ 5
  · simp [h]
  · by_cases h2 : t ≥ 16
    · simp [h, h2]
    · simp [h, h2]
/-- What 'frame' tells. -/
def frameErr (loc hgt : Int) (sl : List Int) (locals : Int) : Int :=
  if loc ≠ locals ∨ hgt < 0 ∨ hgt > 24 - locals then 65 else
  if ((sl.drop (locals + hgt).toNat).any (fun t => t != 0)) = true then 65 else
  if ((sl.take (locals + hgt).toNat).any (fun t => !isCode t)) = true then 62 else 0

theorem frame_cell {w : World} {g : Nat} {loc hgt : Int} {sl : List Int} {t : TypeId} (h : w.heap[g]? = some (.cells (frameCells loc hgt sl).toArray t (0, 0))) (i : Nat) (hi : i < sl.length) : w.cell? ⟨g, 2 + i, none⟩ = some (.int .u8 (sl.getD i 0)) := by
  rw [blk_cell h]
  simp only [frameCells, List.getElem?_toArray]
  rw [show 2 + i = i + 1 + 1 from by omega]
  rw [List.getElem?_cons_succ, List.getElem?_cons_succ, List.getElem?_map, List.getD_eq_getElem?_getD, List.getElem?_eq_getElem hi]
  rfl

theorem rd_nat (l : List Int) (k : Nat) (h : k < l.length) : rd l (k : Int) = l[k] := by
  simp [rd, Int.toNat_natCast, List.getElem?_eq_getElem h]
theorem any_take_succ (l : List Int) (p : Int → Bool) (k : Nat) (h : k < l.length) : (l.take (k + 1)).any p = ((l.take k).any p || p (rd l (k : Int))) := by
  rw [List.take_succ_eq_append_getElem h, List.any_append, rd_nat l k h]
  simp
theorem any_at (l : List Int) (p : Int → Bool) (k : Nat) (h : k < l.length) (hp : p (rd l (k : Int)) = true) : l.any p = true :=
  List.any_eq_true.2 ⟨_, List.getElem_mem h, by rwa [rd_nat l k h] at hp⟩
theorem size_map {t : TypeId} {n : Nat} (h : (Try.prog.info? t).map (·.size) = some n) (w : World) : (sizeOf t).run Try.prog w = .ok n w := by
  cases hq : Try.prog.info? t with
  | none => simp [hq] at h
  | some i =>
    simp [hq] at h
    simp [sizeOf, typeInfo, hq, h]
theorem row_of_block {w : World} {g : Nat} {C : Array Value} {t : TypeId} (h : w.heap[g]? = some (.cells C t (0, 0))) (o : Nat) (xs : List Int) (hl : xs.length ≤ 24) (hx : ∀ (j : Nat) (x : Int), xs[j]? = some x → C[o + j]? = some (.int .u8 x)) : Kd.C (Kd.int .u8) w (some ⟨g, o, none⟩) xs.length xs := by
  refine ⟨rfl, by omega, fun _ => ⟨_, rfl, fun j p hj => ⟨[.int .u8 p], rfl, rfl, fun i u hu => ?_⟩⟩⟩
  match i, hu with
  | 0, hu =>
    simp only [List.getElem?_cons_zero, Option.some.injEq] at hu
    subst hu
    rw [show (Kd.int IntKind.u8).sz = 1 from rfl, Nat.mul_one, Nat.add_zero, Addr.add_mid, blk_cell h]
    exact hx j p hj
theorem frame_at {loc hgt : Int} {sl : List Int} (m : Nat) (j : Nat) (x : Int) (h : (sl.drop m)[j]? = some x) : (frameCells loc hgt sl).toArray[2 + m + j]? = some (.int .u8 x) := by
  rw [List.getElem?_drop] at h
  rw [List.getElem?_toArray, show 2 + m + j = m + j + 1 + 1 from by omega, frameCells, List.getElem?_cons_succ, List.getElem?_cons_succ, List.getElem?_map, h]
  rfl
theorem slice95_lo (g n : Nat) (hn : n ≤ 24) : ∃ ad : Addr, (n < 24 → ad = ⟨g, 2 + n, none⟩) ∧ ∀ W : World, (Instr.sliceAt 95 (.pointer (some ⟨g, 2, none⟩)) (some (.int .i64 (n : Int))) none none).run Try.prog W = .ok (.slice (some ad) (24 - n) (24 - n)) W := by
  refine ⟨if 24 = n then ⟨g, 2, none⟩ else ⟨g, 2 + n, none⟩, fun h => if_neg (by omega), fun W => ?_⟩
  rw [run_sliceAt_array_l W 95 ⟨g, 2, none⟩ (by kernel_rfl) .i64 (n : Int) (by omega) (by rw [show Try.prog.arrayLen 95 = 24 from by kernel_rfl]; omega)]
  rw [show Try.prog.elem 95 = 78 from by kernel_rfl, show Try.prog.arrayLen 95 = 24 from by kernel_rfl]
  have h78 : ∀ w : World, (sizeOf 78).run Try.prog w = .ok 1 w := fun w => size_map (by kernel_rfl) w
  rw [h78]
  simp only [Result.andThen_ok, slicedAt, Int.toNat_natCast, Nat.mul_one, Addr.add_mid]
theorem slice95_hi (g n : Nat) (hn : n ≤ 24) : ∃ ad : Addr, (n ≤ 24 → ad = ⟨g, 2, none⟩) ∧ ∀ W : World, (Instr.sliceAt 95 (.pointer (some ⟨g, 2, none⟩)) none (some (.int .i64 (n : Int))) none).run Try.prog W = .ok (.slice (some ad) n 24) W := by
  refine ⟨⟨g, 2, none⟩, fun h => rfl, fun W => ?_⟩
  rw [run_sliceAt_array_h W 95 ⟨g, 2, none⟩ (by kernel_rfl) .i64 (n : Int) (by omega) (by rw [show Try.prog.arrayLen 95 = 24 from by kernel_rfl]; omega)]
  rw [show Try.prog.elem 95 = 78 from by kernel_rfl, show Try.prog.arrayLen 95 = 24 from by kernel_rfl]
  have h78 : ∀ w : World, (sizeOf 78).run Try.prog w = .ok 1 w := fun w => size_map (by kernel_rfl) w
  rw [h78]
  simp only [Result.andThen_ok, slicedAt, Int.toNat_natCast, Nat.zero_mul, Addr.add_mid]
  simp

set_option maxHeartbeats 8000000 in
set_option maxRecDepth 100000 in
theorem frame_calls (loc hgt : Int) (sl : List Int) (locals : Int) (w : World) (hs : sl.length = 24) (h0 : 0 ≤ locals) (h1 : locals ≤ 16) (hw : -9223372036854775808 ≤ hgt ∧ hgt ≤ 9223372036854775807) :
    Calls Try.prog 71 #[.agg (frameCells loc hgt sl).toArray, .int .i64 locals] w fun e w' => e = .returned (.int .i64 (frameErr loc hgt sl locals)) ∧ Below w.heap.size w w' := by
  have HB := Aside0.mk (Below.refl w.heap.size w)
  by_cases c1 : loc = locals
  · by_cases c2 : hgt < 0
    · have hE : frameErr loc hgt sl locals = 65 := by unfold frameErr; rw [if_pos (.inr (.inl c2))]
      rw [hE]
      go_enter Try.func71, Try.ntmps71
      go_wp2_with (first | ((with_reducible refine gate_dst (N := 2) rfl ?_); refine box_event ?hg (N := 2) ?hd (cs := (frameCells loc hgt sl).toArray) (t := 97) ?hr ?_; (case hd => rfl); (case hg => rfl); (case hr => first | (go_simp; done) | (go_simp; rfl)); intro gb hg w2 hbox hb; have BK := Aside0.mk hbox; have HB2 := Aside0.mk (below_step HB.out hb); have HG := Aside0.mk (show w.heap.size ≤ gb by rw [hg]; exact Nat.le_refl _); clear hb hbox hg; have hc0 : w2.cell? ⟨gb, 0, none⟩ = some (.int .i64 loc) := (blk_cell BK.out 0).trans rfl; have hc1 : w2.cell? ⟨gb, 1, none⟩ = some (.int .i64 hgt) := (blk_cell BK.out 1).trans rfl))
      go_ret
      exact ⟨rfl, HB2.out⟩
    · by_cases c3 : hgt > 24 - locals
      · have hE : frameErr loc hgt sl locals = 65 := by unfold frameErr; rw [if_pos (.inr (.inr c3))]
        rw [hE]
        go_enter Try.func71, Try.ntmps71
        go_wp2_with (first | ((with_reducible refine gate_dst (N := 2) rfl ?_); refine box_event ?hg (N := 2) ?hd (cs := (frameCells loc hgt sl).toArray) (t := 97) ?hr ?_; (case hd => rfl); (case hg => rfl); (case hr => first | (go_simp; done) | (go_simp; rfl)); intro gb hg w2 hbox hb; have BK := Aside0.mk hbox; have HB2 := Aside0.mk (below_step HB.out hb); have HG := Aside0.mk (show w.heap.size ≤ gb by rw [hg]; exact Nat.le_refl _); clear hb hbox hg; have hc0 : w2.cell? ⟨gb, 0, none⟩ = some (.int .i64 loc) := (blk_cell BK.out 0).trans rfl; have hc1 : w2.cell? ⟨gb, 1, none⟩ = some (.int .i64 hgt) := (blk_cell BK.out 1).trans rfl))
        go_ret
        exact ⟨rfl, HB2.out⟩
      · obtain ⟨n, hn⟩ : ∃ n : Nat, locals + hgt = (n : Int) := ⟨(locals + hgt).toNat, by omega⟩
        have hn24 : n ≤ 24 := by omega
        have hwr : wrap64 (locals + hgt) = (n : Int) := by unfold wrap64; omega
        have hE : frameErr loc hgt sl locals = (if ((sl.drop n).any (fun t => t != 0)) = true then 65 else if ((sl.take n).any (fun t => !isCode t)) = true then 62 else 0) := by
          unfold frameErr; rw [if_neg (by omega), hn]; rfl
        rw [hE]
        clear hE
        obtain ⟨r, hr⟩ : ∃ r : Int, (if ((sl.drop n).any (fun t => t != 0)) = true then 65 else if ((sl.take n).any (fun t => !isCode t)) = true then 62 else 0) = r := ⟨_, rfl⟩
        rw [hr]
        have HR := Aside0.mk hr
        clear hr
        go_enter Try.func71, Try.ntmps71
        go_wp2_with (first | ((with_reducible refine gate_dst (N := 2) rfl ?_); refine box_event ?hg (N := 2) ?hd (cs := (frameCells loc hgt sl).toArray) (t := 97) ?hr ?_; (case hd => rfl); (case hg => rfl); (case hr => first | (go_simp; done) | (go_simp; rfl)); intro gb hg w2 hbox hb; have BK := Aside0.mk hbox; have HB2 := Aside0.mk (below_step HB.out hb); have HG := Aside0.mk (show w.heap.size ≤ gb by rw [hg]; exact Nat.le_refl _); clear hb hbox hg; have hc0 : w2.cell? ⟨gb, 0, none⟩ = some (.int .i64 loc) := (blk_cell BK.out 0).trans rfl; have hc1 : w2.cell? ⟨gb, 1, none⟩ = some (.int .i64 hgt) := (blk_cell BK.out 1).trans rfl; obtain ⟨ad1, had1, hsl1⟩ := slice95_lo gb n hn24; obtain ⟨ad2, had2, hsl2⟩ := slice95_hi gb n hn24; have R1 := Aside0.mk (show n < 24 → Kd.C (Kd.int .u8) w2 (some ad1) (sl.drop n).length (sl.drop n) from fun h => by rw [had1 h]; exact row_of_block BK.out (2 + n) (sl.drop n) (by rw [List.length_drop]; omega) (fun j x hj => frame_at n j x hj)); have R2 := Aside0.mk (show Kd.C (Kd.int .u8) w2 (some ad2) (sl.take n).length (sl.take n) from (by rw [had2 hn24]; exact row_of_block BK.out 2 (sl.take n) (by rw [List.length_take]; omega) (fun j x hj => by have := frame_at (loc := loc) (hgt := hgt) (sl := sl) 0 j x (by rw [List.getElem?_take] at hj; split at hj <;> simp_all); simpa using this))); have HH1 := Aside0.mk had1; have HH2 := Aside0.mk had2; clear had1 had2))
        go_loop [34] (fun i => ∃ k : Nat, k ≤ 24 - n ∧ i = .int .i64 k ∧ ((sl.drop n).take k).any (fun t => t != 0) = false) (fun i => 24 - (intOf i).toNat)
        case atStart => exact ⟨0, Nat.zero_le _, rfl, rfl⟩
        case round =>
          obtain ⟨k, hk, rfl, hz⟩ := hrel
          have HZ := Aside0.mk hz
          clear hz
          by_cases hlt : k < 24 - n
          · have hld : (sl.drop n).length = 24 - n := by rw [List.length_drop]; omega
            obtain ⟨ad, e, hx⟩ := Kd.at_int (R1.out (by omega)) (k : Int) (by omega) (by omega)
            cases e
            rw [Int.toNat_natCast] at hx
            by_cases hv : rd (sl.drop n) (k : Int) = 0
            · have HS := Aside0.mk (show ((sl.drop n).take (k + 1)).any (fun t => t != 0) = false by rw [any_take_succ _ _ _ (by omega), HZ.out, hv]; rfl)
              rw [hv] at hx
              go_wp2
              go_round
              case rel => exact ⟨k + 1, by omega, by go_num, HS.out⟩
              case measure => simp [intOf]; omega
            · have HS := Aside0.mk (show (sl.drop n).any (fun t => t != 0) = true from any_at _ _ k (by omega) (by simpa using hv))
              have hvb : (rd (sl.drop n) (k : Int) != 0) = true := by simpa using hv
              clear hv
              go_wp2
              go_ret
              exact ⟨by rw [← HR.out, if_pos HS.out]; rfl, HB2.out⟩
          · have hkw : k = 24 - n := by omega
            subst hkw
            have HS := Aside0.mk (show (sl.drop n).any (fun t => t != 0) = false by have := HZ.out; rwa [List.take_of_length_le (by rw [List.length_drop]; omega)] at this)
            clear hlt
            go_wp2
            go_loopw [45] (fun i wr => ∃ k : Nat, k ≤ n ∧ i = .int .i64 k ∧ ((sl.take n).take k).any (fun t => !isCode t) = false ∧ Drawn0 w2 wr) (fun i _ => 24 - (intOf i).toNat)
            case atStart => exact ⟨0, Nat.zero_le _, rfl, rfl, Drawn0.refl _⟩
            case round =>
              obtain ⟨k, hk, rfl, hz2, hdr⟩ := hrel
              have HZ2 := Aside0.mk hz2
              obtain ⟨m, rfl⟩ := hdr
              clear hz2
              by_cases hlt : k < n
              · have hld : (sl.take n).length = n := by rw [List.length_take]; omega
                obtain ⟨ad, e, hx⟩ := Kd.at_int R2.out (k : Int) (by omega) (by omega)
                cases e
                rw [Int.toNat_natCast] at hx
                by_cases hv : isCode (rd (sl.take n) (k : Int)) = true
                · have HS2 := Aside0.mk (show ((sl.take n).take (k + 1)).any (fun t => !isCode t) = false by rw [any_take_succ _ _ _ (by omega), HZ2.out, hv]; rfl)
                  have HV := Aside0.mk hv
                  clear hv
                  go_wp2_with fail
                  refine (cert_known.calls _ _ _ (known_f _)).mono ?_
                  rintro e w3 ⟨rfl, m3, rfl⟩
                  have hv := HV.out
                  rw [hv]
                  go_wp2
                  go_roundw
                  case rel => exact ⟨k + 1, by omega, by go_num, HS2.out, by repeat (first | exact Drawn0.refl _ | apply Drawn0.step)⟩
                  case measure => simp [intOf]; omega
                · have HS2 := Aside0.mk (show (sl.take n).any (fun t => !isCode t) = true from any_at _ _ k (by omega) (by simpa using hv))
                  have HV := Aside0.mk (Bool.eq_false_iff.mpr hv)
                  clear hv
                  go_wp2_with fail
                  refine (cert_known.calls _ _ _ (known_f _)).mono ?_
                  rintro e w3 ⟨rfl, m3, rfl⟩
                  have hv := HV.out
                  rw [hv]
                  go_wp2
                  go_ret
                  exact ⟨by rw [← HR.out, if_neg (by rw [HS.out]; decide), if_pos HS2.out]; rfl, by repeat (first | exact HB2.out | refine pw_below_drewN ?_ _)⟩
              · have hkw : k = n := by omega
                subst hkw
                have HS2 := Aside0.mk (show (sl.take k).any (fun t => !isCode t) = false by have := HZ2.out; rwa [List.take_of_length_le (by rw [List.length_take]; omega)] at this)
                clear hlt
                go_wp2
                go_ret
                exact ⟨by rw [← HR.out, if_neg (by rw [HS.out]; decide), if_neg (by rw [HS2.out]; decide)]; rfl, by repeat (first | exact HB2.out | refine pw_below_drewN ?_ _)⟩
  · have hE : frameErr loc hgt sl locals = 65 := by unfold frameErr; rw [if_pos (.inl c1)]
    rw [hE]
    go_enter Try.func71, Try.ntmps71
    go_wp2_with (first | ((with_reducible refine gate_dst (N := 2) rfl ?_); refine box_event ?hg (N := 2) ?hd (cs := (frameCells loc hgt sl).toArray) (t := 97) ?hr ?_; (case hd => rfl); (case hg => rfl); (case hr => first | (go_simp; done) | (go_simp; rfl)); intro gb hg w2 hbox hb; have BK := Aside0.mk hbox; have HB2 := Aside0.mk (below_step HB.out hb); have HG := Aside0.mk (show w.heap.size ≤ gb by rw [hg]; exact Nat.le_refl _); clear hb hbox hg; have hc0 : w2.cell? ⟨gb, 0, none⟩ = some (.int .i64 loc) := (blk_cell BK.out 0).trans rfl; have hc1 : w2.cell? ⟨gb, 1, none⟩ = some (.int .i64 hgt) := (blk_cell BK.out 1).trans rfl))
    go_ret
    exact ⟨rfl, HB2.out⟩
end Go.Proofs.Ytblgcodkbapccaa.CertWalk
