/- PROVED: the given row of CodeAlls: for every slice of instructions the call returns true and its argument reads as before. Conditions: none beyond the row's own cells. -/
import Derived.Test.YtblgcodkbapccaaRows
import Derived.Test.YtblgcodkbapccaaOpenRows
import Derived.Test.YtblgcodkbapccaaPureCodeAlls
import Derived.WalkKit
import Derived.ProofKit
import Derived.OpenShut
import Derived.ShutString
import Derived.ChangeOld
import Derived.Below
import Derived.SizedLaws
import Derived.Lib.SmallJoins
namespace Go.Proofs.Ytblgcodkbapccaa.codeAlls
open Go.ChangeShapes Go.WideShapes Go.ChangeAt Go.RowKit Go.Joins Go.Proofs.Ytblgcodkbapccaa.PCodeAlls Go.Proofs.Ytblgcodkbapccaa.OpenRows Go.Proofs.YtblgcodkbapccaaW.PrintWords
set_option linter.unusedVariables false
theorem own : ownKnob Try.prog.godebug = none := by kernel_rfl
theorem laidOut : laidOutB Try.prog = true := by kernel_rfl
theorem cells42 : Try.prog.cellsOf 42 = 4 := by kernel_rfl

theorem cells3 : Try.prog.cellsOf 3 = 1 := by kernel_rfl
theorem cells5 : Try.prog.cellsOf 5 = 1 := by kernel_rfl
theorem four_cells {cs : List Value} {a b c d : Value} (hl : cs.length = 4) (e0 : (cs.drop 0).take 1 = [a]) (e1 : (cs.drop 1).take 1 = [b]) (e2 : (cs.drop 2).take 1 = [c]) (e3 : (cs.drop 3).take 1 = [d]) : cs = [a, b, c, d] := by
  match cs, hl with
  | [c0, c1, c2, c3], _ =>
    simp at e0 e1 e2 e3
    rw [e0, e1, e2, e3]

/-- An instruction's cells tell an instruction. -/
theorem instr_of {H : Type} {enc : TypeId × Value → H} {w : World} {base : Nat} {spare : Nat → Bool} {held : Bool} (n : Nat) (cs : List Value) (z : DataW H × List MemPlace) (h : DataW.trod enc Try.prog w base spare held n 42 cs = some z) :
    ∃ x : S42, k42.K w x cs ∧ (Lit.int .u8 x.f1).wf = true := by
  obtain ⟨y0, y1, y2, y3, m, _, hlen, h0, h1, h2, h3⟩ := trod_struct4 Try.underlying42 h
  obtain ⟨a, e0, _, _⟩ := DataW.trod_int Try.underlying3 h0
  obtain ⟨b, e1, _, wb⟩ := DataW.trod_int Try.underlying5 h1
  obtain ⟨c, e2, _, _⟩ := DataW.trod_int Try.underlying3 h2
  obtain ⟨d, e3, _, _⟩ := DataW.trod_int Try.underlying3 h3
  rw [cells42] at hlen
  refine ⟨⟨a, b, c, d⟩, ?_, wb⟩
  dsimp only at e0 e1 e2 e3
  rw [cells3] at e0 e2 e3
  rw [cells5] at e1
  rw [four_cells hlen e0 e1 e2 e3]
  exact k42_mk w ⟨a, b, c, d⟩

set_option maxRecDepth 100000 in
theorem lifted (os : Os) (started : os.Started) (H : Type) (enc : TypeId × Value → H) :
    ReturnsInHanded {} Try.checked os 10 .any (Rows.codeAllsSpec.pre6 enc Try.prog Try.f10 Rows.codeAllsRow.domain false) (Rows.codeAllsSpec.post enc Try.prog Try.f10 false true false false) := by
  refine returnsInHanded_of_change_sized (C := Try.checked) own started (by kernel_rfl) Try.func10
    (ChangeSpec.witness6 (enc := enc) (C := Try.checked) false ⟨#[], #[.slice none 0 0], []⟩ 8 (by kernel_rfl) (by kernel_rfl) (by kernel_rfl) (by kernel_rfl)) ?_
  intro W base args ds gs before hval0 hW hcnd hsz0 _
  have hsz : (DataW.weightsEach Try.prog (Try.f10.params.toList ++ Rows.codeAllsSpec.plain.varTypes Try.prog) (ds ++ gs)).all (· ≤ reachBytes) = true := hsz0
  have hval : ∀ (j : Nat) t v, Try.f10.params[j]? = some t → args[j]? = some v → Value.okWide Try.prog W .any base t v := hval0
  have hW' := hW
  obtain ⟨p, q, hA0, hV, rfl, hfz, hnd⟩ := hW
  have hA : DataW.TrodAll enc Try.prog W 0 (fun _ => true) true Try.f10.params.toList args.toList ds p := hA0
  rw [Try.params10] at hA hval hsz
  obtain ⟨v0, vs0, d0, ds0, p0, q0, hargs, rfl, rfl, h0, r0⟩ := trodAll_cons hA
  obtain ⟨rfl, rfl, rfl⟩ := trodAll_nil r0
  obtain rfl : args = #[v0] := by cases args; simp_all
  obtain ⟨rfl, rfl⟩ := trodVars_none hV
  obtain ⟨a0, len0, cap0, rfl⟩ := okWide_slice Try.underlying62 (hval 0 62 v0 rfl rfl)
  have k0 := h0
  have lt0 : ∀ x ∈ p0, x.block < W.heap.size := by obtain ⟨m, hm⟩ := k0; exact DataW.trod_lt m _ _ _ hm
  obtain ⟨xs, hlc, hr, hd⟩ := open_row (R := fun (x : S42) cs => k42.K W x cs ∧ (Lit.int .u8 x.f1).wf = true) Try.underlying62 cells42 h0 instr_of
  have hlen : xs.length = len0 := hr.1
  have hC : Kd.C k42 W a0 xs.length xs := by
    rw [hlen]
    exact hr.imp_ (Below.refl _ _) (fun _ _ h => h.1)
  have hwf : ∀ x ∈ xs, (Lit.int .u8 x.f1).wf = true := by
    intro x hx
    obtain ⟨i, hi, rfl⟩ := List.mem_iff_getElem.1 hx
    obtain ⟨ad, _, hg⟩ := hr.2.2 (by omega)
    obtain ⟨c, _, hRc, _⟩ := hg i _ (List.getElem?_eq_getElem hi)
    exact hRc.2
  have hbig : xs.length * 32 ≤ 140737488351232 := by
    rcases hd with h | ⟨elems, spares, rfl, hel⟩
    · omega
    · have z := sized_slice hsz (j := 0) (t := 62) rfl rfl Try.underlying62
      rw [show Try.prog.bytesOf 42 = 32 from by kernel_rfl] at z
      have : reachBytes = 140737488351232 := rfl
      omega
  clear hA0 hval0 hsz0 hsz
  obtain ⟨k, b, n, e, hc, hr', he, hi⟩ := PureAlls.CodeAlls xs hwf (by omega)
  subst hlen
  refine (AllsWalk.law_calls k a0 cap0 xs b n e W hC hlc (by omega) hc hr' he hi).mono fun e W' ⟨he, bel⟩ => ?_
  subst he
  exact ⟨_, rfl, _, _, _, [], _, [], hW', trodAll_mk1 (shut_bool Try.underlying4 _), (trodAll_cons_mk (Below.trod laidOut (by kernel_rfl) (of_decide_eq_true (by kernel_rfl)) k0 bel lt0) trodAll_mk0), rfl, bel.frame _, fun h => by cases h⟩
theorem over : Rows.codeAllsRow.holds Try.pinned (OpenSpec.ofChange Rows.codeAllsSpec) :=
  OpenClaim.holds_of_wide 10 Try.f10 rfl rfl rfl rfl rfl rfl rfl ⟨rfl, rfl, rfl, rfl, rfl⟩ rfl rfl rfl rfl rfl (by kernel_rfl) Try.func10 (by kernel_rfl)
    (of_decide_eq_true (by kernel_rfl)) (by unfold Func.isWrapper; first | (rw [if_pos (by decide +kernel)]; kernel_rfl) | (rw [if_neg (by decide +kernel)]; exact ⟨rfl, rfl⟩))
    (fun os started H enc _ => lifted os started H enc)
theorem proved : Rows.CodeAllsSaid := over
end Go.Proofs.Ytblgcodkbapccaa.codeAlls
namespace Go.Proofs.Ytblgcodkbapccaa
/-- The row, under a short name, for the claim. -/
theorem codeAlls_holds : Rows.CodeAllsSaid := codeAlls.proved
end Go.Proofs.Ytblgcodkbapccaa
