/- PROVED: what cert.Check tells of a certificate. Conditions: the slice within its reach; 24 slots each; heights are numbers of 64 bits. -/
import Derived.Test.YtblgcodkbapccaaCertCopied
import Derived.Deep.Slices
namespace Go.Proofs.Ytblgcodkbapccaa.CertWalk
open Go.RowKit Go.Proofs.Ytblgcodkbapccaa.PCertChecks Go.Proofs.YtblgcodkbapccaaW.PrintWords Go.Proofs.YtblgcodkbapccaaW.PrintLast Go.Proofs.YtblgcodkbapccaaW.PrintMore
attribute [local go_sem] max2_int min2_int max_two min_two max_three min_three max_four min_four
set_option linter.unusedVariables false
set_option linter.unusedSimpArgs false
attribute [local go_sem high] eqFrame eqEnt

section
variable {P : Program} {ops : Array Oper} {rest : List Oper} {o : Oper} {a : Act} {Q : Exit → Act → World → Prop}
/-- A whole row is read, at whatever address. -/
theorem load_event {W : World} (hgd : o.guard = none) (ty : TypeId) (x : Operand) (ho : o.op = .load ty x) (ad : Addr) (hx : a.eval x = .pointer (some ad)) (cs : List Value) (d : TypeDesc) (hc : ∀ j v, cs[j]? = some v → W.cell? (ad.add j) = some v)
    (hu : P.underlying ty = some d) (hd : d.isRow = true) (hi : (P.info? ty).map (·.size) = some cs.length)
    (h : wpList P ops Q rest (a.put o.dst (.agg cs.toArray)) W) : wpList P ops Q (o :: rest) a W := by
  have hl : (loadCells ad cs.length).run P W = .ok cs.toArray W := run_loadCells_list (P := P) W ad cs hc
  have hlv : (loadVar ty ad).run P W = .ok (.agg cs.toArray) W := by
    cases hq : P.info? ty with
    | none => simp [hq] at hi
    | some i =>
      have hs : i.size = cs.length := by simpa [hq] using hi
      have hagg : (isAgg ty).run P W = .ok true W := by
        unfold isAgg
        rw [Sem.run_bind, run_underlying hu W]
        cases d <;> simp_all
      simp [loadVar, Sem.run_bind, hagg, sizeOf, typeInfo, hq, hs, hl]
  refine wpList_plain hgd fun K hK => ?_
  unfold Oper.wp execOp
  simp only [ho, hx, Instr.loadAt, Instr.sureAddr, Sem.run_bind, Sem.run_pure, Result.andThen_ok, hlv]
  exact hK _ _ h
end
/-- Entry i of a slice. -/
theorem ent_at {w : World} {A : Option Addr} {l : List Ent} (h : Kd.C kE w A l.length l) (k : Nat) (hk : k < l.length) : ∃ ad, A = some ad ∧ l[k].sl.length = 24 ∧ ∀ j v, l[k].cells[j]? = some v → w.cell? ((ad.add (k * 28)).add j) = some v := by
  obtain ⟨ad, e, hc⟩ := h.2.2 (by omega)
  obtain ⟨c, hl, hR, hcell⟩ := hc k _ (List.getElem?_eq_getElem hk)
  refine ⟨ad, e, hR.1, fun j v hv => ?_⟩
  rw [Go.Deep.add_add]
  exact hcell j v (by rw [hR.2]; exact hv)

/-- What rises tells. -/
def risesErr (last ad : Int) : Int := if ad < 0 ∨ ad ≥ 4096 then 5 else if ad = last then 61 else if ad < last then 60 else 0
theorem rises_f (last ad : Int) : cert_rises.f 1 last ad = some (risesErr last ad) := by
  unfold cert_rises.f risesErr
  by_cases h : ad < 0
  · rw [if_pos h, if_pos (.inl h)]; rfl
  · rw [if_neg h]
    by_cases h2 : ad ≥ 4096
    · rw [if_pos (.inr h2)]; simp [cert_rises.j0, h2]
    · rw [if_neg (by omega)]
      simp only [cert_rises.j0, decide_eq_true_eq, if_neg h2]
      split
      · rfl
      · split <;> rfl
/-- What Check tells of one entry. -/
def entErr (L last : Int) (x : Ent) : Int :=
  if risesErr last x.ad ≠ 0 then risesErr last x.ad else
  if x.dead = true then (if (x.loc == 0 && (x.hgt == 0 && (x.sl == z24))) = true then 0 else 65) else frameErr x.loc x.hgt x.sl L
/-- And of all. -/
def checkFrom (L : Int) : Int → Int → List Ent → Int × Int
  | _, _, [] => (0, 0)
  | last, i, x :: xs => if entErr L last x ≠ 0 then (i, entErr L last x) else checkFrom L x.ad (i + 1) xs
def check (L : Int) (l : List Ent) : Int × Int :=
  if L < 0 ∨ L > 16 then (0, 5) else if (l.length : Int) > 4096 then (4096, 4) else checkFrom L (-1) 0 l
theorem checkFrom_at (L last i : Int) (l : List Ent) (k : Nat) (hk : k < l.length) : checkFrom L last i (l.drop k) = (if entErr L last l[k] ≠ 0 then (i, entErr L last l[k]) else checkFrom L l[k].ad (i + 1) (l.drop (k + 1))) := by
  rw [List.drop_eq_getElem_cons hk, checkFrom]

theorem info99z : (Try.prog.info? 99).map (fun i => (i.zero, i.size)) = some (some (.agg (Ent.cells ⟨0, false, 0, 0, z24⟩).toArray), 28) := by kernel_rfl
theorem zero99 (w : World) : (zeroValue 99).run Try.prog w = .ok (.agg (Ent.cells ⟨0, false, 0, 0, z24⟩).toArray) w := (zero_of_info info99z).1 w
theorem cells_len (x : Ent) (h : x.sl.length = 24) : x.cells.length = 28 := by simp [Ent.cells, frameCells_len, h]

set_option maxHeartbeats 8000000 in
set_option maxRecDepth 100000 in
theorem check_calls (L : Int) (A0 : Option Addr) (c0 : Nat) (l0 : List Ent) (w : World) (hr0 : Kd.C kE w A0 l0.length l0) (hl : l0.length * 56 ≤ 140737488355328) (hw : ∀ x ∈ l0, -9223372036854775808 ≤ x.hgt ∧ x.hgt ≤ 9223372036854775807) :
    Calls Try.prog 36 #[.agg #[.int .i64 L, .slice A0 l0.length c0]] w fun e w' => e = .returned (.tuple #[.int .i64 (check L l0).1, .int .i64 (check L l0).2]) ∧ Below w.heap.size w w' := by
  have HB := Aside0.mk (Below.refl w.heap.size w)
  have HC := Aside0.mk hr0
  have HL := Aside0.mk hl
  have HW := Aside0.mk hw
  clear hr0 hl hw
  obtain ⟨rn, re, hr⟩ : ∃ rn re, check L l0 = (rn, re) := ⟨_, _, rfl⟩
  rw [hr]
  have HR := Aside0.mk hr
  clear hr
  have hz := zero99
  have hz97 := zero97
  have hzl := z24_len
  go_enter Try.func36, Try.ntmps36
  go_upto_region 1 with (first | ((with_reducible refine gate_dst (N := 1) rfl ?_); refine box_event ?hg (N := 1) ?hd (cs := #[.int .i64 L, .slice A0 l0.length c0]) (t := 51) ?hr ?_; (case hd => rfl); (case hg => rfl); (case hr => first | (go_simp; done) | (go_simp; rfl)); intro gb hg w1 hbox hb; have BK := Aside0.mk hbox; have HB1 := Aside0.mk (below_step HB.out hb); have HG := Aside0.mk (show w.heap.size ≤ gb by rw [hg]; exact Nat.le_refl _); have hc0 : w1.cell? ⟨gb, 0, none⟩ = some (.int .i64 L) := (blk_cell BK.out 0).trans rfl; have hc1 : w1.cell? ⟨gb, 1, none⟩ = some (.slice A0 l0.length c0) := (blk_cell BK.out 1).trans rfl; clear hb hbox hg))
  by_cases c1 : L < 0
  · have HE := Aside0.mk (show (0, 5) = (rn, re) by rw [← HR.out, check, if_pos (.inl c1)])
    injection HE.out with h1 h2
    subst h1 h2
    go_wp2
    go_ret2
    exact ⟨rfl, HB1.out⟩
  · by_cases c2 : L > 16
    · have HE := Aside0.mk (show (0, 5) = (rn, re) by rw [← HR.out, check, if_pos (.inr c2)])
      injection HE.out with h1 h2
      subst h1 h2
      go_wp2
      go_ret2
      exact ⟨rfl, HB1.out⟩
    · by_cases c3 : (l0.length : Int) > 4096
      · have HE := Aside0.mk (show (4096, 4) = (rn, re) by rw [← HR.out, check, if_neg (by omega), if_pos c3])
        injection HE.out with h1 h2
        subst h1 h2
        go_wp2
        go_ret2
        exact ⟨rfl, HB1.out⟩
      · have HE := Aside0.mk (show checkFrom L (-1) 0 l0 = (rn, re) by rw [← HR.out, check, if_neg (by omega), if_neg c3])
        go_wp2
        go_loopw [4, 23] (fun la i wr => ∃ (k : Nat) (last : Int), k ≤ l0.length ∧ la = .int .i64 last ∧ i = .int .i64 k ∧ Aside0 (checkFrom L last k (l0.drop k) = (rn, re)) ∧ Aside0 (wr.heap[gb]? = some (.cells #[.int .i64 L, .slice A0 l0.length c0] 51 (0, 0))) ∧ Aside0 (Below w.heap.size w wr)) (fun _ i _ => l0.length - (intOf i).toNat)
        case atStart => exact ⟨0, -1, Nat.zero_le _, rfl, rfl, HE, BK, HB1⟩
        case round =>
          obtain ⟨k, last, hk, rfl, rfl, HF, BKr, HBr⟩ := hrel
          clear hc0 hc1
          have hc0 : wr.cell? ⟨gb, 0, none⟩ = some (.int .i64 L) := (blk_cell BKr.out 0).trans rfl
          have hc1 : wr.cell? ⟨gb, 1, none⟩ = some (.slice A0 l0.length c0) := (blk_cell BKr.out 1).trans rfl
          by_cases hlt : k < l0.length
          · obtain ⟨ad, e, h24, hx⟩ := ent_at (Kd.C_below HC.out HBr.out) k hlt
            subst e
            have HF2 := Aside0.mk ((checkFrom_at L last k l0 k hlt).symm.trans HF.out)
            have hwx := HW.out _ (List.getElem_mem hlt)
            obtain ⟨x, hxk⟩ : ∃ x, l0[k] = x := ⟨_, rfl⟩
            rw [hxk] at h24 hx hwx HF2
            have HX := Aside0.mk hx
            have HXK := Aside0.mk hxk
            clear hx hxk HF
            go_upto_region 9 with (first | ((with_reducible refine gate_dst (N := 27) rfl ?_); refine load_event rfl 99 (.tmp 26) rfl (ad.add (k * 28)) ?ev x.cells _ HX.out Try.underlying99 rfl (by rw [cells_len x h24]; exact size99) ?_; (case ev => first | rfl | (go_simp; done) | (go_simp; rfl))) | ((with_reducible refine gate_dst (N := 6) rfl ?_); refine box_event ?hg (N := 6) ?hd (cs := (Ent.cells ⟨0, false, 0, 0, z24⟩).toArray) (t := 99) ?hr ?_; (case hd => rfl); (case hg => rfl); (case hr => first | (go_simp; done) | (go_simp; rfl)); intro gc hgc w5 hboxc hb; have BC := Aside0.mk hboxc; have BK5 := Aside0.mk (blk_below BKr.out hb); have HGC := Aside0.mk (show w.heap.size ≤ gc by rw [hgc]; exact below_size HBr.out); have HNE := Aside0.mk (show gb ≠ gc by rw [hgc]; exact Nat.ne_of_lt (blk_lt BKr.out)); have HB5 := Aside0.mk (below_step HBr.out hb); clear hb hboxc hgc) | (refine store_event (w0 := w) (base := w.heap.size) rfl (ty := 99) (p := .tmp 6) (v := .tmp 27) rfl rfl rfl BC.out (by rw [List.size_toArray, cells_len x h24]; exact size99) (by rw [List.size_toArray, List.size_toArray, cells_len x h24, cells_len _ z24_len]) (Ent.cells_one _) HB5.out HGC.out ?_; intro w6 hbc hb6 hoth hsz; have BC6 := Aside0.mk hbc; have BK6 := Aside0.mk ((hoth gb HNE.out).trans BK5.out); have HB6 := Aside0.mk hb6; clear hbc hb6 hoth hsz))
            (try simp only [Act.put, List.setIfInBounds_toArray, List.set_cons_zero, List.set_cons_succ])
            clear hc0 hc1
            have hc0 : w6.cell? ⟨gb, 0, none⟩ = some (.int .i64 L) := (blk_cell BK6.out 0).trans rfl
            have hc1 : w6.cell? ⟨gb, 1, none⟩ = some (.slice (some ad) l0.length c0) := (blk_cell BK6.out 1).trans rfl
            have hx0 : w6.cell? ⟨gc, 0, none⟩ = some (.int .i64 x.ad) := (blk_cell BC6.out 0).trans rfl
            have hx1 : w6.cell? ⟨gc, 1, none⟩ = some (.bool x.dead) := (blk_cell BC6.out 1).trans rfl
            go_wp2_with fail
            refine (cert_rises.calls 1 last x.ad _ _ (rises_f _ _)).mono ?_
            rintro e7 w7 ⟨rfl, m7, rfl⟩
            obtain ⟨W7, hW7⟩ : ∃ W7, w6.drewN m7 = W7 := ⟨_, rfl⟩
            rw [hW7]
            clear hc0 hc1 hx0 hx1
            have BK7 := Aside0.mk (show W7.heap[gb]? = some (.cells #[.int .i64 L, .slice (some ad) l0.length c0] 51 (0, 0)) by rw [← hW7]; exact blk_drewN BK6.out _)
            have BC7 := Aside0.mk (show W7.heap[gc]? = some (.cells x.cells.toArray 99 (0, 0)) by rw [← hW7]; exact blk_drewN BC6.out _)
            have HB7 := Aside0.mk (show Below w.heap.size w W7 by rw [← hW7]; exact pw_below_drewN HB6.out _)
            clear hW7 BK6 BC6 HB6
            have hc0 : W7.cell? ⟨gb, 0, none⟩ = some (.int .i64 L) := (blk_cell BK7.out 0).trans rfl
            have hx0 : W7.cell? ⟨gc, 0, none⟩ = some (.int .i64 x.ad) := (blk_cell BC7.out 0).trans rfl
            have hx1 : W7.cell? ⟨gc, 1, none⟩ = some (.bool x.dead) := (blk_cell BC7.out 1).trans rfl
            have HFR := Aside0.mk (show W7.rangeAt gc 2 (frameCells x.loc x.hgt x.sl) by have hh := World.rangeAt_of_block BC7.out 2 26; rwa [show (x.cells.toArray.extract 2 (2 + 26)).toList = frameCells x.loc x.hgt x.sl by simp [Ent.cells, List.take_of_length_le, frameCells_len, h24]] at hh)
            obtain ⟨er, her⟩ : ∃ er, risesErr last x.ad = er := ⟨_, rfl⟩
            rw [her]
            by_cases c4 : er = 0
            · subst c4
              have HER := Aside0.mk her
              clear her
              by_cases hd : x.dead = true
              · rw [hd] at hx1
                by_cases he : (x.loc == 0 && (x.hgt == 0 && (x.sl == z24))) = true
                · have HEE := Aside0.mk (show entErr L last x = 0 by rw [entErr, if_neg (by rw [HER.out]; decide), if_pos hd, if_pos he])
                  have HF3 := Aside0.mk (show checkFrom L x.ad ((k + 1 : Nat) : Int) (l0.drop (k + 1)) = (rn, re) by have h := HF2.out; rw [if_neg (by rw [HEE.out]; decide)] at h; exact h)
                  clear hd HEE
                  go_wp2_with (first | ((with_reducible refine gate_dst (N := 40) rfl ?_); (try (refine gate_guard (by rfl) ?_; dsimp only)); refine wpList_load_mid rfl 97 (.tmp 39) rfl gc 2 rfl (frameCells x.loc x.hgt x.sl) _ HFR.out Try.underlying97 rfl (by rw [frameCells_len, h24]; exact size97) ?_))
                  go_roundw
                  case rel => exact ⟨k + 1, x.ad, by omega, rfl, by go_num, HF3, BK7, HB7⟩
                  case measure => simp [intOf]; omega
                · have HEE := Aside0.mk (show entErr L last x = 65 by rw [entErr, if_neg (by rw [HER.out]; decide), if_pos hd, if_neg he])
                  have HF3 := Aside0.mk (show ((k : Int), 65) = (rn, re) by have h := HF2.out; rw [if_pos (by rw [HEE.out]; decide), HEE.out] at h; exact h)
                  injection HF3.out with h1 h2
                  subst h1 h2
                  have hef := Bool.eq_false_iff.mpr he
                  clear hd HEE he
                  go_wp2_with (first | ((with_reducible refine gate_dst (N := 40) rfl ?_); (try (refine gate_guard (by rfl) ?_; dsimp only)); refine wpList_load_mid rfl 97 (.tmp 39) rfl gc 2 rfl (frameCells x.loc x.hgt x.sl) _ HFR.out Try.underlying97 rfl (by rw [frameCells_len, h24]; exact size97) ?_))
                  go_ret2
                  exact ⟨rfl, HB7.out⟩
              · replace hd := Bool.eq_false_iff.mpr hd
                rw [hd] at hx1
                have HEE := Aside0.mk (show entErr L last x = frameErr x.loc x.hgt x.sl L by rw [entErr, if_neg (by rw [HER.out]; decide), if_neg (by rw [hd]; decide)])
                clear hd
                go_wp2_with (first | ((with_reducible refine gate_dst (N := 49) rfl ?_); refine wpList_load_mid rfl 97 (.tmp 48) rfl gc 2 rfl (frameCells x.loc x.hgt x.sl) _ HFR.out Try.underlying97 rfl (by rw [frameCells_len, h24]; exact size97) ?_))
                refine (frame_calls x.loc x.hgt x.sl L _ h24 c1 c2 hwx).mono ?_
                rintro e8 w8 ⟨rfl, hb8⟩
                have BK8 := Aside0.mk (blk_below BK7.out hb8)
                have BC8 := Aside0.mk (blk_below BC7.out hb8)
                have HB8 := Aside0.mk (below_step HB7.out hb8)
                clear hb8 hc0 hx0 hx1
                have hx0 : w8.cell? ⟨gc, 0, none⟩ = some (.int .i64 x.ad) := (blk_cell BC8.out 0).trans rfl
                have HF4 := HF2.out
                rw [HEE.out] at HF4
                have HF4 := Aside0.mk HF4
                obtain ⟨ef, hef⟩ : ∃ ef, frameErr x.loc x.hgt x.sl L = ef := ⟨_, rfl⟩
                rw [hef] at HF4 ⊢
                clear hef
                by_cases c5 : ef = 0
                · subst c5
                  have HF3 := Aside0.mk (show checkFrom L x.ad ((k + 1 : Nat) : Int) (l0.drop (k + 1)) = (rn, re) by have h := HF4.out; rw [if_neg (by decide)] at h; exact h)
                  go_wp2
                  go_roundw
                  case rel => exact ⟨k + 1, x.ad, by omega, rfl, by go_num, HF3, BK8, HB8⟩
                  case measure => simp [intOf]; omega
                · have HF3 := Aside0.mk (show ((k : Int), ef) = (rn, re) by have h := HF4.out; rw [if_pos c5] at h; exact h)
                  injection HF3.out with h1 h2
                  subst h1 h2
                  have c5b : (ef != 0) = true := by simpa using c5
                  clear c5
                  go_wp2
                  go_ret2
                  exact ⟨rfl, HB8.out⟩
            · have HEE := Aside0.mk (show entErr L last x = er by rw [entErr, if_pos (by rw [her]; exact c4), her])
              have HF3 := Aside0.mk (show ((k : Int), er) = (rn, re) by have h := HF2.out; rw [HEE.out, if_pos c4] at h; exact h)
              injection HF3.out with h1 h2
              subst h1 h2
              have c4b : (er != 0) = true := by simpa using c4
              clear c4 her
              go_wp2
              go_ret2
              exact ⟨rfl, HB7.out⟩
          · obtain rfl : k = l0.length := by omega
            have HF2 := Aside0.mk (show (0, 0) = (rn, re) by rw [← HF.out, List.drop_length]; rfl)
            injection HF2.out with h1 h2
            subst h1 h2
            clear hlt
            go_wp2
            go_ret2
            exact ⟨rfl, HBr.out⟩
end Go.Proofs.Ytblgcodkbapccaa.CertWalk
