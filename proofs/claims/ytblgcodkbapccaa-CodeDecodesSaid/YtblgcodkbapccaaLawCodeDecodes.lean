/- PROVED: the given row of CodeDecodes: for any bytes and any place the call returns true and its arguments read as before. Conditions: none beyond the row's own cells. -/
import Derived.Test.YtblgcodkbapccaaRows
import Derived.Test.YtblgcodkbapccaaOpenRows
import Derived.Test.YtblgcodkbapccaaDecodesLaw
import Derived.WalkKit
import Derived.ProofKit
import Derived.OpenShut
import Derived.ShutString
import Derived.ChangeOld
import Derived.Below
import Derived.SizedLaws
namespace Go.Proofs.Ytblgcodkbapccaa.codeDecodes
open Go.ChangeShapes Go.WideShapes Go.ChangeAt Go.RowKit Go.Proofs.Ytblgcodkbapccaa.OpenRows Go.Proofs.YtblgcodkbapccaaW.PrintWords
set_option linter.unusedVariables false
theorem own : ownKnob Try.prog.godebug = none := by kernel_rfl
theorem laidOut : laidOutB Try.prog = true := by kernel_rfl
theorem cells5 : Try.prog.cellsOf 5 = 1 := by kernel_rfl

/-- A byte's cell tells a byte. -/
theorem byte_of {H : Type} {enc : TypeId × Value → H} {w : World} {base : Nat} {spare : Nat → Bool} {held : Bool} (n : Nat) (cs : List Value) (z : DataW H × List MemPlace) (h : DataW.trod enc Try.prog w base spare held n 5 cs = some z) :
    ∃ x : Int, (Kd.int .u8).K w x cs ∧ 0 ≤ x ∧ x ≤ 255 := by
  obtain ⟨a, e0, _, wa⟩ := DataW.trod_int Try.underlying5 h
  simp [Lit.wf, go_sem] at wa
  exact ⟨a, e0, wa.1, wa.2⟩

set_option maxRecDepth 100000 in
theorem lifted (os : Os) (started : os.Started) (H : Type) (enc : TypeId × Value → H) :
    ReturnsInHanded {} Try.checked os 9 .any (Rows.codeDecodesSpec.pre6 enc Try.prog Try.f9 Rows.codeDecodesRow.domain false) (Rows.codeDecodesSpec.post enc Try.prog Try.f9 false true false false) := by
  refine returnsInHanded_of_change_sized (C := Try.checked) own started (by kernel_rfl) Try.func9
    (ChangeSpec.witness6 (enc := enc) (C := Try.checked) false ⟨#[], #[.slice none 0 0, .int .i64 0], []⟩ 8 (by kernel_rfl) (by kernel_rfl) (by kernel_rfl) (by kernel_rfl)) ?_
  intro W base args ds gs before hval0 hW hcnd hsz0 _
  have hsz : (DataW.weightsEach Try.prog (Try.f9.params.toList ++ Rows.codeDecodesSpec.plain.varTypes Try.prog) (ds ++ gs)).all (· ≤ reachBytes) = true := hsz0
  have hval : ∀ (j : Nat) t v, Try.f9.params[j]? = some t → args[j]? = some v → Value.okWide Try.prog W .any base t v := hval0
  have hW' := hW
  obtain ⟨p, q, hA0, hV, rfl, hfz, hnd⟩ := hW
  have hA : DataW.TrodAll enc Try.prog W 0 (fun _ => true) true Try.f9.params.toList args.toList ds p := hA0
  rw [Try.params9] at hA hval hsz
  obtain ⟨v0, vs0, d0, ds0, p0, q0, hargs, rfl, rfl, h0, r0⟩ := trodAll_cons hA
  obtain ⟨v1, vs1, d1, ds1, p1, q1, rfl, rfl, rfl, h1, r1⟩ := trodAll_cons r0
  obtain ⟨rfl, rfl, rfl⟩ := trodAll_nil r1
  obtain rfl : args = #[v0, v1] := by cases args; simp_all
  obtain ⟨rfl, rfl⟩ := trodVars_none hV
  obtain ⟨a0, len0, cap0, rfl⟩ := okWide_slice Try.underlying43 (hval 0 43 v0 rfl rfl)
  obtain ⟨a1, rfl, rfl, rfl, w1⟩ := open_int Try.underlying3 (hval 1 3 v1 rfl rfl) h1
  have k0 := h0
  have lt0 : ∀ x ∈ p0, x.block < W.heap.size := by obtain ⟨m, hm⟩ := k0; exact DataW.trod_lt m _ _ _ hm
  obtain ⟨xs, hlc, hr, hd⟩ := open_row (R := fun (x : Int) cs => (Kd.int .u8).K W x cs ∧ 0 ≤ x ∧ x ≤ 255) Try.underlying43 cells5 h0 byte_of
  have hlen : xs.length = len0 := hr.1
  have hC : Kd.C (Kd.int .u8) W a0 xs.length xs := by
    rw [hlen]
    exact hr.imp_ (Below.refl _ _) (fun _ _ h => h.1)
  have hwf : ∀ x ∈ xs, 0 ≤ x ∧ x ≤ 255 := by
    intro x hx
    obtain ⟨i, hi, rfl⟩ := List.mem_iff_getElem.1 hx
    obtain ⟨ad, _, hg⟩ := hr.2.2 (by omega)
    obtain ⟨c, _, hRc, _⟩ := hg i _ (List.getElem?_eq_getElem hi)
    exact hRc.2
  have hbig : xs.length ≤ 140737488351232 := by
    rcases hd with h | ⟨elems, spares, rfl, hel⟩
    · omega
    · have z := sized_slice hsz (j := 0) (t := 43) rfl rfl Try.underlying43
      rw [show Try.prog.bytesOf 5 = 1 from by kernel_rfl] at z
      have : reachBytes = 140737488351232 := rfl
      omega
  clear hA0 hval0 hsz0 hsz
  subst hlen
  refine (DecodesLaw.law_calls a0 cap0 xs a1 W hC hlc hbig hwf).mono fun e W' ⟨he, bel⟩ => ?_
  subst he
  exact ⟨_, rfl, _, _, _, [], _, [], hW', trodAll_mk1 (shut_bool Try.underlying4 _), (trodAll_cons_mk (Below.trod laidOut (by kernel_rfl) (of_decide_eq_true (by kernel_rfl)) k0 bel lt0) (trodAll_cons_mk (shut_int Try.underlying3 w1) trodAll_mk0)), rfl, bel.frame _, fun h => by cases h⟩
theorem over : Rows.codeDecodesRow.holds Try.pinned (OpenSpec.ofChange Rows.codeDecodesSpec) :=
  OpenClaim.holds_of_wide 9 Try.f9 rfl rfl rfl rfl rfl rfl rfl ⟨rfl, rfl, rfl, rfl, rfl⟩ rfl rfl rfl rfl rfl (by kernel_rfl) Try.func9 (by kernel_rfl)
    (of_decide_eq_true (by kernel_rfl)) (by unfold Func.isWrapper; first | (rw [if_pos (by decide +kernel)]; kernel_rfl) | (rw [if_neg (by decide +kernel)]; exact ⟨rfl, rfl⟩))
    (fun os started H enc _ => lifted os started H enc)
theorem proved : Rows.CodeDecodesSaid := over
end Go.Proofs.Ytblgcodkbapccaa.codeDecodes
namespace Go.Proofs.Ytblgcodkbapccaa
/-- The row, under a short name, for the claim. -/
theorem codeDecodes_holds : Rows.CodeDecodesSaid := codeDecodes.proved
end Go.Proofs.Ytblgcodkbapccaa
