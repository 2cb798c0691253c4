/- SatNils in the interpreter: the law's own code cut in four parts; each closed part by the kernel. -/
import Derived.Test.YtmgnkabpglgblabEnv
import Derived.KernelRfl
namespace AM
open Go Go.Proofs
def fstC : ACode → ACode | .seq a _ => a | c => c
def sndC : ACode → ACode | .seq _ b => b | c => c
def finC (rec : Rec) (a : AFn) (x : Option (Ex × Fr × Mem)) : Option (Res × Mem) :=
  match x with
  | some (.exit _, _, _) => none
  | some (.panic v, fr, m) =>
    match unwindA rec fr.defers (some v) m with
    | some (none, m) => match readRes fr.vars m false a.results with
      | some vs => some (.out (.ret (oneOrTup vs)) fr.did, m)
      | none => none
    | some (some v, m) => some (.out (.panic v) fr.did, m)
    | none => none
  | some (_, fr, m) =>
    match unwindA rec fr.defers none m with
    | some (none, m) => match readRes fr.vars m true a.results with
      | some vs => some (.out (.ret (oneOrTup vs)) fr.did, m)
      | none => none
    | _ => none
  | none => none
theorem step_call {E : Env} {rec : Rec} {f : FuncId} {args : List AV} {pan : Option AV} {m : Mem} {a : AFn} (h : E.fns.get f = some a) :
    stepA E rec (.call f args pan) m = finC rec a (codeRun E.tys rec none a.code { vars := pickVars args a.vt, defers := [], pan, did := false } m) := by
  simp only [stepA, h]
  rfl
def isTrue : Option (Res × Mem) → Bool
  | some (.out (.ret (.bool true)) _, _) => true
  | _ => false
theorem isTrue_spec {x : Option (Res × Mem)} (h : isTrue x = true) : ∃ did m, x = some (.out (.ret (.bool true)) did, m) := by
  unfold isTrue at h
  split at h
  · exact ⟨_, _, rfl⟩
  · simp at h
noncomputable def Nil.A : ACode := fstC Try.c4.code
noncomputable def Nil.B : ACode := fstC (sndC Try.c4.code)
noncomputable def Nil.C : ACode := fstC (sndC (sndC Try.c4.code))
noncomputable def Nil.D : ACode := sndC (sndC (sndC Try.c4.code))
noncomputable def Nil.R : Rec := run Try.env 1000
def Nil.m0 : Mem := ⟨.leaf, 0⟩
def Nil.fr (a b : Int) (c d : AV) : Fr := ⟨[.int .i64 a, .int .i64 b, c, .und, .und, .und, .und, .und, .und, .und, d, .und], [], none, false⟩
noncomputable def Nil.M1 : Mem := match codeRun Try.tys Nil.R none Nil.B (Nil.fr 0 0 (.bool false) .und) Nil.m0 with | some (_, _, m) => m | none => Nil.m0
theorem Nil.split : Try.c4.code = .seq Nil.A (.seq Nil.B (.seq Nil.C Nil.D)) := by kernel_rfl
theorem Nil.runA (a b : Int) : codeRun Try.tys Nil.R none Nil.A (Nil.fr a b .und .und) Nil.m0 = some (.normal, Nil.fr a b (.bool false) .und, Nil.m0) := by kernel_rfl
theorem Nil.runB (a b : Int) : codeRun Try.tys Nil.R none Nil.B (Nil.fr a b (.bool false) .und) Nil.m0 = some (.normal, Nil.fr a b (.bool false) (.bool false), Nil.M1) := by kernel_rfl
theorem Nil.runC (a b : Int) (m : Mem) : codeRun Try.tys Nil.R none Nil.C (Nil.fr a b (.bool false) (.bool false)) m = some (.normal, Nil.fr (IntKind.i64.wrap ((IntKind.u64.wrap a).tmod 5)) b (.bool false) (.bool false), m) := by kernel_rfl
noncomputable def Nil.ok (r b : Int) : Bool := isTrue (finC Nil.R Try.c4 (codeRun Try.tys Nil.R none Nil.D (Nil.fr r b (.bool false) (.bool false)) Nil.M1))
end AM
