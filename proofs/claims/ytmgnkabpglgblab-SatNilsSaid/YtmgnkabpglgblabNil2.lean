/- Of no variable there is a literal, and a nil solver answers nothing: for every count and every literal the law returns true. -/
import Derived.Test.YtmgnkabpglgblabRows
import Derived.Test.YtmgnkabpglgblabNil1
import Derived.WalkKit
import Derived.ProofKit
import Derived.OpenShut
namespace AM
open Go Go.Proofs
theorem Nil.all (r b : Int) (h0 : 0 ≤ r) (h4 : r ≤ 4) : Nil.ok r b = true := by
  have near : ∀ p ∈ [((0 : Int), (0 : Int)), (1, -1), (1, 0), (1, 1), (2, -2), (2, -1), (2, 0), (2, 1), (2, 2), (3, -3), (3, -2), (3, -1), (3, 0), (3, 1), (3, 2), (3, 3), (4, -4), (4, -3), (4, -2), (4, -1), (4, 0), (4, 1), (4, 2), (4, 3), (4, 4)], Nil.ok p.1 p.2 = true := List.all_eq_true.1 Nil.near
  have up : ∀ k : Nat, r + 1 + k = b → Nil.ok r b = true := by
    intro k hk
    have hr : r = 0 ∨ r = 1 ∨ r = 2 ∨ r = 3 ∨ r = 4 := by omega
    rcases hr with rfl | rfl | rfl | rfl | rfl
    · have := Nil.above0 k; rwa [show Int.ofNat (k + 1) = b from by simp; omega] at this
    · have := Nil.above1 k; rwa [show Int.ofNat (k + 2) = b from by simp; omega] at this
    · have := Nil.above2 k; rwa [show Int.ofNat (k + 3) = b from by simp; omega] at this
    · have := Nil.above3 k; rwa [show Int.ofNat (k + 4) = b from by simp; omega] at this
    · have := Nil.above4 k; rwa [show Int.ofNat (k + 5) = b from by simp; omega] at this
  have down : ∀ k : Nat, -r - 1 - k = b → Nil.ok r b = true := by
    intro k hk
    have hr : r = 0 ∨ r = 1 ∨ r = 2 ∨ r = 3 ∨ r = 4 := by omega
    rcases hr with rfl | rfl | rfl | rfl | rfl
    · have := Nil.below0 k; rwa [show Int.negSucc k = b from by omega] at this
    · have := Nil.below1 k; rwa [show Int.negSucc (k + 1) = b from by omega] at this
    · have := Nil.below2 k; rwa [show Int.negSucc (k + 2) = b from by omega] at this
    · have := Nil.below3 k; rwa [show Int.negSucc (k + 3) = b from by omega] at this
    · have := Nil.below4 k; rwa [show Int.negSucc (k + 4) = b from by omega] at this
  by_cases h1 : r < b
  · exact up (b - r - 1).toNat (by omega)
  · by_cases h2 : b < -r
    · exact down (-r - 1 - b).toNat (by omega)
    · have hr : r = 0 ∨ r = 1 ∨ r = 2 ∨ r = 3 ∨ r = 4 := by omega
      have hb : b = -4 ∨ b = -3 ∨ b = -2 ∨ b = -1 ∨ b = 0 ∨ b = 1 ∨ b = 2 ∨ b = 3 ∨ b = 4 := by omega
      refine near (r, b) ?_
      rcases hr with rfl | rfl | rfl | rfl | rfl <;> rcases hb with rfl | rfl | rfl | rfl | rfl | rfl | rfl | rfl | rfl <;> first | (exfalso; omega) | simp
theorem Nil.small (a : Int) : 0 ≤ IntKind.i64.wrap ((IntKind.u64.wrap a).tmod 5) ∧ IntKind.i64.wrap ((IntKind.u64.wrap a).tmod 5) ≤ 4 := by
  have h1 : 0 ≤ IntKind.u64.wrap a := by
    simp only [IntKind.wrap, IntKind.bits, IntKind.signed, Bool.false_and]
    have := Int.emod_nonneg a (show (2 : Int) ^ 64 ≠ 0 by decide)
    simpa using this
  have h2 : (IntKind.u64.wrap a).tmod 5 = (IntKind.u64.wrap a) % 5 := Int.tmod_eq_emod_of_nonneg h1
  have h3 : 0 ≤ (IntKind.u64.wrap a) % 5 ∧ (IntKind.u64.wrap a) % 5 ≤ 4 := by omega
  rw [h2, wrap_i64 _ h3.1 (by omega)]
  exact h3
theorem Nil.runs (a b : Int) : ∃ did m, run Try.env 1001 (.call 4 [.int .i64 a, .int .i64 b] none) Nil.m0 = some (.out (.ret (.bool true)) did, m) := by
  obtain ⟨h0, h4⟩ := Nil.small a
  have hok := Nil.all _ b h0 h4
  obtain ⟨did, m, h⟩ := isTrue_spec hok
  refine ⟨did, m, ?_⟩
  show stepA Try.env Nil.R (.call 4 [.int .i64 a, .int .i64 b] none) Nil.m0 = _
  rw [step_call (a := Try.c4) (by kernel_rfl)]
  have hfr : ({ vars := pickVars [.int .i64 a, .int .i64 b] Try.c4.vt, defers := [], pan := none, did := false } : Fr) = Nil.fr a b .und .und := by kernel_rfl
  have hc : codeRun Try.env.tys Nil.R none Try.c4.code (Nil.fr a b .und .und) Nil.m0 = codeRun Try.tys Nil.R none Nil.D (Nil.fr (IntKind.i64.wrap ((IntKind.u64.wrap a).tmod 5)) b (.bool false) (.bool false)) Nil.M1 := by
    show codeRun Try.tys Nil.R none Try.c4.code (Nil.fr a b .und .und) Nil.m0 = _
    rw [Nil.split, codeRun, Nil.runA]
    dsimp only
    rw [codeRun, Nil.runB]
    dsimp only
    rw [codeRun, Nil.runC]
  rw [hfr, hc]
  exact h
end AM
namespace Go.Proofs.Ytmgnkabpglgblab.satNils
open Go.ChangeShapes Go.WideShapes Go.ChangeAt Go.RowKit AM
set_option linter.unusedVariables false
theorem own : ownKnob Try.prog.godebug = none := by kernel_rfl
theorem walk (a b : Int) (W : World) : Calls Try.prog 4 #[.int .i64 a, .int .i64 b] W fun e W' => e = .returned (.bool true) ∧ Below W.heap.size W W' := by
  obtain ⟨did, m, h⟩ := Nil.runs a b
  have hM : MR Try.env.tys (fun _ _ => none) Nil.m0 W := ⟨fun _ _ _ h => by simp at h, fun _ _ _ h => by simp at h, fun _ _ _ _ _ _ h => by simp at h, fun o x h => by simp [Nil.m0, Mem.get, Trie.get] at h, fun _ _ => rfl⟩
  refine (runW_calls (E := Try.env) Try.tys_ok Try.fns_ok Try.mixed (runW_of h) hM (args' := #[.int .i64 a, .int .i64 b]) (.cons (.int _ _) (.cons (.int _ _) .nil))).mono ?_
  rintro e W' ⟨v', ρ', rfl, hv, _, hA⟩
  cases hv
  exact ⟨rfl, below_of hA fun _ _ _ h => by simp at h⟩
set_option maxRecDepth 100000 in
theorem contract (H : Type) (enc : TypeId × Value → H) (W : World) (base : Nat) (args : Array Value) (ds gs : List (DataW H)) (before : List MemPlace)
    (hval : ∀ (j : Nat) t v, Try.f4.params[j]? = some t → args[j]? = some v → Value.okWide Try.prog W .any base t v)
    (hW : DataW.Whole enc Try.prog Try.f4.params.toList Rows.satNilsSpec.vars false W args.toList ds gs before) :
    Calls Try.prog 4 args W fun e W' => ∃ v, e = .returned v ∧ Rows.satNilsSpec.post enc Try.prog Try.f4 false true false false W args v W' := by
  have hW' := hW
  obtain ⟨p, q, hA0, hV, rfl, hfz, hnd⟩ := hW
  have hA : DataW.TrodAll enc Try.prog W 0 (fun _ => true) true Try.f4.params.toList args.toList ds p := hA0
  rw [Try.params4] at hA hval
  obtain ⟨v0, vs0, d0, ds0, p0, q0, hargs, rfl, rfl, h0, r0⟩ := trodAll_cons hA
  obtain ⟨v1, vs1, d1, ds1, p1, q1, rfl, rfl, rfl, h1, r1⟩ := trodAll_cons r0
  obtain ⟨rfl, rfl, rfl⟩ := trodAll_nil r1
  obtain rfl : args = #[v0, v1] := by cases args; simp_all
  obtain ⟨rfl, rfl⟩ := trodVars_none hV
  obtain ⟨a0, rfl, rfl, rfl, w0⟩ := open_int Try.underlying3 (hval 0 3 v0 rfl rfl) h0
  obtain ⟨a1, rfl, rfl, rfl, w1⟩ := open_int Try.underlying3 (hval 1 3 v1 rfl rfl) h1
  clear hA0
  refine (walk a0 a1 W).mono fun e W' ⟨he, hg⟩ => ?_
  subst he
  exact ⟨_, rfl, law_post (t := 4) (by kernel_rfl) (fun t ht => by
    rw [Try.params4] at ht
    simp at ht
    subst ht
    exact ⟨by kernel_rfl, of_decide_eq_true (by kernel_rfl)⟩) (by kernel_rfl) rfl Try.underlying4 hW' hg ⟨rfl, rfl, rfl⟩⟩
set_option maxRecDepth 100000 in
theorem lifted (os : Os) (started : os.Started) (H : Type) (enc : TypeId × Value → H) :
    ReturnsInHanded {} Try.checked os 4 .any (Rows.satNilsSpec.pre6 enc Try.prog Try.f4 Rows.satNilsRow.domain false) (Rows.satNilsSpec.post enc Try.prog Try.f4 false true false false) := by
  refine returnsInHanded_of_change (C := Try.checked) own started (by kernel_rfl) Try.func4
    (ChangeSpec.witness6 (enc := enc) (C := Try.checked) false ⟨#[], #[.int .i64 0, .int .i64 0], []⟩ 8 (by kernel_rfl) (by kernel_rfl) (by kernel_rfl) (by kernel_rfl)) ?_
  intro W base args ds gs before hval hW _ _
  exact contract H enc W base args ds gs before hval hW
theorem proved : Rows.SatNilsSaid :=
  OpenClaim.holds_of_wide 4 Try.f4 rfl rfl rfl rfl rfl rfl rfl ⟨rfl, rfl, rfl, rfl, rfl⟩ rfl rfl rfl rfl rfl (by kernel_rfl) Try.func4 (by kernel_rfl)
    (of_decide_eq_true (by kernel_rfl)) (by unfold Func.isWrapper; first | (rw [if_pos (by decide +kernel)]; kernel_rfl) | (rw [if_neg (by decide +kernel)]; exact ⟨rfl, rfl⟩))
    (fun os started H enc _ => lifted os started H enc)
#print axioms proved
end Go.Proofs.Ytmgnkabpglgblab.satNils
