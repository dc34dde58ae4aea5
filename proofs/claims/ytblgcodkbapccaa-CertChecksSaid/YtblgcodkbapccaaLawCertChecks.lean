/- PROVED: the given row of CertChecks: for every certificate the call returns true and its argument reads as before. Conditions: none beyond the row's own cells. -/
import Derived.Test.YtblgcodkbapccaaRows
import Derived.Test.YtblgcodkbapccaaOpenRows
import Derived.Test.YtblgcodkbapccaaCertLaw
import Derived.WalkKit
import Derived.ProofKit
import Derived.OpenShut
import Derived.ShutString
import Derived.ChangeOld
import Derived.Below
import Derived.SizedLaws
import Derived.Lib.SmallJoins
import Derived.Deep.Strs
namespace Go.Proofs.Ytblgcodkbapccaa.certChecks
open Go.Deep Go.ChangeShapes Go.WideShapes Go.ChangeAt Go.RowKit Go.Joins Go.Proofs.Ytblgcodkbapccaa.OpenRows Go.Proofs.YtblgcodkbapccaaW.PrintWords Go.Proofs.Ytblgcodkbapccaa.CertWalk
set_option linter.unusedVariables false
theorem own : ownKnob Try.prog.godebug = none := by kernel_rfl
theorem laidOut : laidOutB Try.prog = true := by kernel_rfl
theorem cells99 : Try.prog.cellsOf 99 = 28 := by kernel_rfl
theorem cells97 : Try.prog.cellsOf 97 = 26 := by kernel_rfl
theorem cells95 : Try.prog.cellsOf 95 = 24 := by kernel_rfl
theorem cells78 : Try.prog.cellsOf 78 = 1 := by kernel_rfl
theorem cells51 : Try.prog.cellsOf 51 = 2 := by kernel_rfl
theorem cells3 : Try.prog.cellsOf 3 = 1 := by kernel_rfl
theorem cells4 : Try.prog.cellsOf 4 = 1 := by kernel_rfl
theorem row_of (cs : List Value) (h : ∀ i, i < cs.length → ∃ a, (cs.drop i).take 1 = [Value.int .u8 a]) : cs = (cs.map intOf).map (Value.int .u8) := by
  refine List.ext_getElem (by simp) fun i h1 h2 => ?_
  obtain ⟨a, ha⟩ := h i h1
  rw [List.drop_eq_getElem_cons h1, List.take_succ_cons] at ha
  injection ha with ha _
  simp [ha, intOf]
theorem three {cs : List Value} {n : Nat} {a b : Value} {t : List Value} (hl : cs.length = n + 2) (e0 : (cs.drop 0).take 1 = [a]) (e1 : (cs.drop 1).take 1 = [b]) (e2 : (cs.drop 2).take n = t) : cs = a :: b :: t := by
  match cs, hl with
  | c0 :: c1 :: r, hl =>
    simp at e0 e1 e2 hl
    rw [e0, e1, ← e2, List.take_of_length_le (by omega)]

/-- An entry's cells tell an entry. -/
theorem ent_of {H : Type} {enc : TypeId × Value → H} {w : World} {base : Nat} {spare : Nat → Bool} {held : Bool} (n : Nat) (cs : List Value) (z : DataW H × List MemPlace) (h : DataW.trod enc Try.prog w base spare held n 99 cs = some z) :
    ∃ x : Ent, kE.K w x cs ∧ (Lit.int .i64 x.hgt).wf = true := by
  obtain ⟨y0, y1, y2, m, _, hlen, h0, h1, h2⟩ := trod_struct3 Try.underlying99 h
  obtain ⟨a, e0, _, _⟩ := DataW.trod_int Try.underlying3 h0
  obtain ⟨b, e1, _⟩ := DataW.trod_bool Try.underlying4 h1
  obtain ⟨z0, z1, z2, m2, _, hlen2, k0, k1, k2⟩ := trod_struct3 Try.underlying97 h2
  obtain ⟨c, f0, _, _⟩ := DataW.trod_int Try.underlying3 k0
  obtain ⟨d, f1, _, wd⟩ := DataW.trod_int Try.underlying3 k1
  obtain ⟨xs, m3, _, _, hlen3, hx3, hel⟩ := DataW.trod_array Try.underlying95 k2
  dsimp only at e0 e1 f0 f1 hlen2 hlen3 hel
  rw [cells3] at e0 f0 f1
  rw [cells4] at e1
  rw [cells99] at hlen
  rw [cells97] at hlen2 f0 f1 hlen3 hel
  rw [cells95] at hlen3 hel
  rw [cells78] at hel
  generalize hF : (cs.drop 2).take 26 = F at *
  generalize hS : (F.drop 2).take 24 = S at *
  have hSl : S = (S.map intOf).map (Value.int .u8) := row_of S (fun i hi => by
    have h3 := hel i (by omega)
    rw [List.getElem?_eq_getElem (by omega)] at h3
    obtain ⟨u, g0, _, _⟩ := DataW.trod_int Try.underlying78 h3
    rw [Nat.mul_one] at g0
    exact ⟨u, g0⟩)
  have hFe := three (n := 24) hlen2 f0 f1 hS
  have hCe := three (n := 26) hlen e0 e1 hF
  refine ⟨⟨a, b, c, d, S.map intOf⟩, ⟨by rw [List.length_map]; exact hlen3, ?_⟩, wd⟩
  rw [hCe, hFe, hSl]
  simp [Ent.cells, frameCells]
  intros
  rfl

set_option maxRecDepth 100000 in
theorem lifted (os : Os) (started : os.Started) (H : Type) (enc : TypeId × Value → H) :
    ReturnsInHanded {} Try.checked os 8 .any (Rows.certChecksSpec.pre6 enc Try.prog Try.f8 Rows.certChecksRow.domain false) (Rows.certChecksSpec.post enc Try.prog Try.f8 false true false false) := by
  refine returnsInHanded_of_change_sized (C := Try.checked) own started (by kernel_rfl) Try.func8
    (ChangeSpec.witness6 (enc := enc) (C := Try.checked) false ⟨#[], #[.agg #[.int .i64 0, .slice none 0 0]], []⟩ 8 (by kernel_rfl) (by kernel_rfl) (by kernel_rfl) (by kernel_rfl)) ?_
  intro W base args ds gs before hval0 hW hcnd hsz0 _
  have hsz : (DataW.weightsEach Try.prog (Try.f8.params.toList ++ Rows.certChecksSpec.plain.varTypes Try.prog) (ds ++ gs)).all (· ≤ reachBytes) = true := hsz0
  have hval : ∀ (j : Nat) t v, Try.f8.params[j]? = some t → args[j]? = some v → Value.okWide Try.prog W .any base t v := hval0
  have hW' := hW
  obtain ⟨p, q, hA0, hV, rfl, hfz, hnd⟩ := hW
  have hA : DataW.TrodAll enc Try.prog W 0 (fun _ => true) true Try.f8.params.toList args.toList ds p := hA0
  rw [Try.params8] at hA hval hsz
  obtain ⟨v0, vs0, d0, ds0, p0, q0, hargs, rfl, rfl, h0, r0⟩ := trodAll_cons hA
  obtain ⟨rfl, rfl, rfl⟩ := trodAll_nil r0
  obtain rfl : args = #[v0] := by cases args; simp_all
  obtain ⟨rfl, rfl⟩ := trodVars_none hV
  have k0 := h0
  have lt0 : ∀ x ∈ p0, x.block < W.heap.size := by obtain ⟨m, hm⟩ := k0; exact DataW.trod_lt m _ _ _ hm
  obtain ⟨u0, u1, y0, y1, m, rfl, rfl, hp0, hy0, hy1⟩ := open_agg2 Try.underlying51 (by kernel_rfl) cells51 (hval 0 51 v0 rfl rfl) h0
  obtain ⟨L, eL, _, _⟩ := DataW.trod_int Try.underlying3 hy0
  simp only [List.cons.injEq, and_true] at eL
  subst eL
  have main : ∃ (A : Option Addr) (c : Nat) (xs : List Ent), u1 = .slice A xs.length c ∧ Kd.C kE W A xs.length xs ∧ (∀ x ∈ xs, (Lit.int .i64 x.hgt).wf = true) ∧ xs.length * 56 ≤ 140737488351232 := by
    rcases open_row_cs (R := fun (x : Ent) cs => kE.K W x cs ∧ (Lit.int .i64 x.hgt).wf = true) Try.underlying49 cells99 hy1 (fun n _ => ent_of n) with ⟨e, _⟩ | ⟨a, len, cap, xs, elems, spares, e, hlc, hd, hel, hr⟩
    · simp only [List.cons.injEq, and_true] at e
      exact ⟨none, 0, [], e, ⟨rfl, by simp, fun h => absurd h (by simp)⟩, fun x hx => by simp at hx, by simp⟩
    · simp only [List.cons.injEq, and_true] at e
      have hlen : xs.length = len := hr.1
      refine ⟨some a, cap, xs, by rw [hlen]; exact e, by rw [hlen]; exact hr.imp_ (Below.refl _ _) (fun _ _ h => h.1), fun x hx => ?_, ?_⟩
      · obtain ⟨i, hi, rfl⟩ := List.mem_iff_getElem.1 hx
        obtain ⟨ad, _, hg⟩ := hr.2.2 (by omega)
        obtain ⟨c, _, hRc, _⟩ := hg i _ (List.getElem?_eq_getElem hi)
        exact hRc.2
      · have z := List.all_eq_true.1 hsz _ (DataW.weights_mem_each (j := 0) (t := 51) rfl rfl ((elems.length + spares.length) * Try.prog.bytesOf 99) (by
          simp only [DataW.weights, Try.underlying51]
          exact DataW.weights_mem_each (j := 1) (t := 49) rfl rfl _ (by rw [hd]; simp [DataW.weights, Try.underlying49])))
        simp only [decide_eq_true_eq] at z
        rw [show Try.prog.bytesOf 99 = 56 from by kernel_rfl] at z
        have : reachBytes = 140737488351232 := rfl
        omega
  obtain ⟨A, c, xs, rfl, hC, hwf, hbig⟩ := main
  clear hA0 hval0 hsz0 hsz
  refine (law_calls L A c xs W hC (by omega) (fun x hx => bounds_i64 (hwf x hx))).mono fun e W' ⟨he, bel⟩ => ?_
  subst he
  exact ⟨_, rfl, _, _, _, [], _, [], hW', trodAll_mk1 (shut_bool Try.underlying4 _), (trodAll_cons_mk (Below.trod laidOut (by kernel_rfl) (of_decide_eq_true (by kernel_rfl)) k0 bel lt0) trodAll_mk0), rfl, bel.frame _, fun h => by cases h⟩
theorem over : Rows.certChecksRow.holds Try.pinned (OpenSpec.ofChange Rows.certChecksSpec) :=
  OpenClaim.holds_of_wide 8 Try.f8 rfl rfl rfl rfl rfl rfl rfl ⟨rfl, rfl, rfl, rfl, rfl⟩ rfl rfl rfl rfl rfl (by kernel_rfl) Try.func8 (by kernel_rfl)
    (of_decide_eq_true (by kernel_rfl)) (by unfold Func.isWrapper; first | (rw [if_pos (by decide +kernel)]; kernel_rfl) | (rw [if_neg (by decide +kernel)]; exact ⟨rfl, rfl⟩))
    (fun os started H enc _ => lifted os started H enc)
theorem proved : Rows.CertChecksSaid := over
end Go.Proofs.Ytblgcodkbapccaa.certChecks
namespace Go.Proofs.Ytblgcodkbapccaa
/-- The row, under a short name, for the claim. -/
theorem certChecks_holds : Rows.CertChecksSaid := certChecks.proved
end Go.Proofs.Ytblgcodkbapccaa
