/- An interpreter of the model, and that it is right: part 3 of 3. -/
import Derived.Test.YtmgnkabpglgblaaGreatAm1
import Derived.Orders
import Derived.Carry
import Derived.OpenVars
import Derived.RowKit
import Derived.OpenShut
/- Regions that draw their order: what holds when some of the operations are done. -/
namespace AM
open Go

structure DS (l : List AOper) (ancs : List Nat) (lim : Nat) (D : Nat → Bool) (bs : Nat) : Prop where
  eff : ∀ i o, l[i]? = some o → cls o.op = .eff → (D i = true ↔ i < bs)
  bsb : bs ∈ 0 :: (effs 0 l).map (· + 1)
  bsle : bs ≤ lim
  down : ∀ k i, D k = true → bitAt ancs k i = true → D i = true
  lt : ∀ i, D i = true → i < l.length
  nop : lim < l.length → D lim = false
structure Ready (l : List AOper) (ancs : List Nat) (D : Nat → Bool) (i : Nat) : Prop where
  lt : i < l.length
  not : D i = false
  ahead : ∀ a, bitAt ancs i a = true → D a = true
structure DT (vt : List Tmp) (nt : Nat) (ops : Array Oper) (x : St) (st : Nat → St) (D : Nat → Bool) (bs : Nat) (σ : Gh) (t : Array Value) : Prop where
  slots : ∀ i o, ops[i]? = some o → D i = true → ∀ u, o.dst = some u → (∀ k q, ops[k]? = some q → D k = true → q.dst = some u → k ≤ i) → VR (σ.below (max (nxAt st (i + 1)) (nxAt st bs))) (valAt st i) (t.getD u undef)
  vars : ∀ j u, vt[j]? = some u → (∀ k q, ops[k]? = some q → D k = true → q.dst ≠ some u) → VR (σ.below (nxAt st bs)) (nth x.2.1.vars j) (t.getD u undef)
  varlt : ∀ (j : Nat) (u : Tmp), vt[j]? = some u → u < t.size
  ntle : nt ≤ t.size
structure DW (T : Tys) (l : List AOper) (rd : Option Nat) (skip : Nat → Bool) (st : Nat → St) (b : Frame) (cs : List Frame) (ρ0 : Gh) (w0 : World) (D : Nat → Bool) (bs : Nat) (σ : Gh) (w : World) (d : List Deferred) : Prop where
  base : MR T (σ.below (nxAt st bs)) (st bs).2.2 w
  dom : ∀ o g v, σ o g = some v → o < nxAt st bs ∨ ∃ a, D a = true ∧ bs ≤ a ∧ IsAl l skip st a ∧ o = nxAt st a
  pend : ∀ a, D a = true → bs ≤ a → IsAl l skip st a → ∃ y, (st (a + 1)).2.2 = (st a).2.2.push y ∧ ObjR T (σ.below (nxAt st (a + 1))) (nxAt st a) w y
  inb : ∀ o g v, σ o g = some v → v.block < w.heap.size
  sep : ∀ o g v o' g' v', σ o g = some v → σ o' g' = some v' → v.rw = true → v.block = v'.block → o = o'
  defers : DRs (σ.below (nxAt st bs)) (st bs).2.1.defers d
  pan : PanR (σ.below (nxAt st bs)) b.kind cs (st bs).2.1.pan (st bs).2.1.did
  round : RdR (σ.below (nxAt st bs)) rd b.roundOf
  adv : Adv ρ0 w0 σ w
def addD (D : Nat → Bool) (i : Nat) : Nat → Bool := fun k => k == i || D k
theorem addD_iff {D : Nat → Bool} {i k : Nat} : addD D i k = true ↔ k = i ∨ D k = true := by simp [addD]
namespace RunC
section
variable {P : Program} {T : Tys} {rec : Rec} {rd : Option Nat} {vt : List Tmp} {nt : Nat} {ops : Array Oper} {l : List AOper} {ancs : List Nat} {plan : Plan} {x : St} {lim : Nat} {skip : Nat → Bool} {st : Nat → St}
variable (C : RunC P T rec rd vt nt ops l ancs plan x lim skip st) {D : Nat → Bool} {bs : Nat} (S : DS l ancs lim D bs)
include C S
theorem noskip {i : Nat} (h : D i = true) : skip i = false := by
  cases hs : skip i with
  | false => rfl
  | true =>
    obtain ⟨h1, h2⟩ := C.tr.skipA i hs
    have h3 := S.nop h1
    rcases h2 with rfl | h2
    · rw [h] at h3; simp at h3
    · rw [S.down _ _ h h2] at h3; simp at h3
theorem skipReady {i : Nat} (r : Ready l ancs D i) (hs : skip i = true) : i = lim := by
  obtain ⟨h1, h2⟩ := C.tr.skipA i hs
  rcases h2 with h2 | h2
  · exact h2
  · have := r.ahead _ h2
    rw [S.nop h1] at this; simp at this
theorem bslen : bs ≤ l.length := Nat.le_trans S.bsle C.lim
omit C in
theorem putDS_plain {i : Nat} (r : Ready l ancs D i) {o : AOper} (ho : l[i]? = some o) (he : cls o.op ≠ .eff) (hl : i ≠ lim) : DS l ancs lim (addD D i) bs := by
  refine ⟨fun k q hq hk => ?_, S.bsb, S.bsle, fun k a hk hb => ?_, fun k hk => ?_, fun h => ?_⟩
  · rw [addD_iff, ← S.eff k q hq hk]
    refine ⟨fun h => h.resolve_left ?_, .inr⟩
    rintro rfl
    rw [ho] at hq; simp at hq; subst hq; exact he hk
  · rw [addD_iff] at hk ⊢
    rcases hk with rfl | hk
    · exact .inr (r.ahead _ hb)
    · exact .inr (S.down _ _ hk hb)
  · rcases addD_iff.1 hk with rfl | hk
    · exact r.lt
    · exact S.lt _ hk
  · have := S.nop h
    simp [addD, this]
    exact fun h => hl h.symm
theorem putDS_eff {i : Nat} (r : Ready l ancs D i) {o : AOper} (ho : l[i]? = some o) (he : cls o.op = .eff) (hl : i < lim) : DS l ancs lim (addD D i) (i + 1) := by
  refine ⟨fun k q hq hk => ?_, ?_, hl, fun k a hk hb => ?_, fun k hk => ?_, fun h => ?_⟩
  · rw [addD_iff]
    rcases Nat.lt_trichotomy k i with h | h | h
    · exact ⟨fun _ => by omega, fun _ => .inr (r.ahead _ (C.R.eff hq ho he (.inl hk) h))⟩
    · exact ⟨fun _ => by omega, fun _ => .inl h⟩
    · refine ⟨fun hx => ?_, fun _ => by omega⟩
      rcases hx with rfl | hx
      · omega
      · have := S.down _ _ hx (C.R.eff ho hq hk (.inl he) h)
        rw [r.not] at this; simp at this
  · simp only [List.mem_cons, List.mem_map]
    exact .inr ⟨i, effs_mem.2 ⟨i, o, ho, he, by omega⟩, rfl⟩
  · rw [addD_iff] at hk ⊢
    rcases hk with rfl | hk
    · exact .inr (r.ahead _ hb)
    · exact .inr (S.down _ _ hk hb)
  · rcases addD_iff.1 hk with rfl | hk
    · exact r.lt
    · exact S.lt _ hk
  · have := S.nop h
    simp [addD, this]
    omega
/-- What makes memory, or has an effect, stands behind the last effect. -/
theorem behind {i : Nat} (r : Ready l ancs D i) {o : AOper} (ho : l[i]? = some o) (he : cls o.op = .eff ∨ cls o.op = .alloc) : bs ≤ i := by
  by_cases h : bs ≤ i
  · exact h
  · have hb := S.bsb
    simp only [List.mem_cons, List.mem_map] at hb
    rcases hb with rfl | ⟨e, hee, rfl⟩
    · omega
    · obtain ⟨k, q, hq, hk, rfl⟩ := effs_mem.1 hee
      simp only [Nat.zero_add] at h ⊢
      have hD : D k = true := (S.eff k q hq hk).2 (by omega)
      by_cases hik : i = k
      · subst hik; rw [r.not] at hD; simp at hD
      · have := S.down _ _ hD (C.R.eff ho hq hk he (by omega))
        rw [r.not] at this; simp at this
/-- No effect stands between the last one that was done and one that is next. -/
theorem calmEff {i : Nat} (r : Ready l ancs D i) {o : AOper} (ho : l[i]? = some o) (he : cls o.op = .eff) : calm l bs i := by
  intro a q h1 h2 hq hc
  have := r.ahead _ (C.R.eff hq ho he (.inl hc) h2)
  have := (S.eff a q hq hc).1 this
  omega
section
variable {σ : Gh} {t : Array Value} (H : DT vt nt ops x st D bs σ t) {i : Nat} (r : Ready l ancs D i) {o : Oper} (ho : ops[i]? = some o)
include H r ho
theorem opndSlot {u : Tmp} (hu : u ∈ looks ops.toList o) {idx : Nat} (hi : idxOp u (dsAt ops.toList i) = some idx) : VR (σ.below (max (nxAt st i) (nxAt st bs))) (nth (st i).1 idx) (t.getD u undef) := by
  have hil : i ≤ ops.toList.length := by have := r.lt; rw [C.R.len] at this; simp; omega
  obtain ⟨h1, ⟨q, hq, hqd⟩, h3⟩ := writer_some hil hi
  have hq' : ops[i - 1 - idx]? = some q := by simpa using hq
  have hb := C.R.read ho hq' hu hqd (by omega)
  rw [if_pos (by omega)] at hb
  have hD := r.ahead _ hb
  have hv := H.slots _ q hq' hD u hqd fun k z hz hDz hzd => by
    by_cases hki : k = i
    · subst hki; rw [r.not] at hDz; simp at hDz
    · have hb2 := C.R.read ho hz hu hzd hki
      by_cases hlt : k < i
      · exact h3 k z hlt (by simpa using hz) hzd
      · rw [if_neg hlt] at hb2
        have := S.down _ _ hDz hb2
        rw [r.not] at this; simp at this
  rw [C.stack (Nat.le_of_lt r.lt) h1]
  refine hv.mono (Gh.below_mono (Gh.le.refl _) ?_)
  have := C.nx_mono (i := i - 1 - idx + 1) (k := i) (by omega) (Nat.le_of_lt r.lt)
  omega
theorem opndVar {u : Tmp} (hu : u ∈ looks ops.toList o) {j : Nat} (hj : vt[j]? = some u) : VR (σ.below (max (nxAt st i) (nxAt st bs))) (nth (st i).2.1.vars j) (t.getD u undef) := by
  have hil : i ≤ ops.toList.length := by have := r.lt; rw [C.R.len] at this; simp; omega
  rw [C.varsLast (Nat.le_of_lt r.lt) j u hj fun k q hk hq hqd => by
    have hb := C.R.read ho hq hu hqd (by omega)
    rw [if_pos hk] at hb
    exact C.noskip S (r.ahead _ hb)]
  cases hi : idxOp u (dsAt ops.toList i) with
  | some idx => exact C.opndSlot S H r ho hu hi
  | none =>
    refine (H.vars j u hj fun k q hq hD hqd => ?_).mono (Gh.below_mono (Gh.le.refl _) (Nat.le_max_right _ _))
    by_cases hki : k = i
    · subst hki; rw [r.not] at hD; simp at hD
    · by_cases hlt : k < i
      · exact writer_none hil hi k q hlt (by simpa using hq) hqd
      · have hb := C.R.read ho hq hu hqd hki
        rw [if_neg hlt] at hb
        have := S.down _ _ hD hb
        rw [r.not] at this; simp at this
/-- Under the mask of what it looks at. -/
theorem srAt : SR (σ.below (max (nxAt st i) (nxAt st bs))) vt nt (dsAt ops.toList i) (maskS (looks ops.toList o) (dsAt ops.toList i) (st i).1) (maskV (looks ops.toList o) vt (st i).2.1.vars) (maskT (looks ops.toList o) t) := by
  have hil : i ≤ ops.toList.length := by have := r.lt; rw [C.R.len] at this; simp; omega
  refine mask_sr C.nodup H.ntle (fun d hd => ?_) ?_ (fun j u hj => ⟨H.varlt j u hj, ?_⟩) (fun u hu idx hi => C.opndSlot S H r ho hu hi) (fun u hu j hj => C.opndVar S H r ho hu hj)
  · obtain ⟨k, hk⟩ := List.mem_iff_getElem?.1 hd
    obtain ⟨_, q, hq, hqd⟩ := (dsAt_get hil).1 hk
    obtain ⟨_, _, _, _, _, h⟩ := C.R.op _ q (by simpa using hq)
    exact h d hqd
  · rw [C.len (Nat.le_of_lt r.lt)]
    simp [dsAt]
    omega
  · rw [C.vlen (Nat.le_of_lt r.lt)]
    exact C.hv j u hj
omit H r ho S in
theorem evAt {i : Nat} {o : Oper} {a : AOp} (hc : compOp T vt (dsAt ops.toList i) o.op = some a) : ∀ y ∈ a.args, ev (st i).1 (st i).2.1.vars y = ev (maskS (looks ops.toList o) (dsAt ops.toList i) (st i).1) (maskV (looks ops.toList o) vt (st i).2.1.vars) y := by
  intro y hy
  have _ := C.lim
  obtain ⟨q, hq, hqc⟩ := comp_args hc y hy
  exact (mask_ev (fun u hu => looks_operand (by rw [← hu]; exact hq)) hqc).symm
omit H r ho S C in
theorem exAt {t : Array Value} {i : Nat} {o : Oper} {a : AOp} (hc : compOp T vt (dsAt ops.toList i) o.op = some a) : execOp (evalT t) o = execOp (evalT (maskT (looks ops.toList o) t)) o := by
  refine execOp_congr o (fun cs b h => ?_) fun q hq => mask_evalT fun u hu => looks_operand (by rw [← hu]; simpa using hq)
  rw [h] at hc
  simp [compOp] at hc
theorem wantsAt {a : AOp} {g : Option (Nat × Bool)} {dst : Option Nat} (hg : guardOf (dsAt ops.toList i) i o = some g) : wants (st i).1 { dst, op := a, guard := g } = Region.wanted o (yielded ops t) := by
  have hil : i ≤ ops.toList.length := by have := r.lt; rw [C.R.len] at this; simp; omega
  have hdone : (ops.toList.take i).length = i := by rw [List.length_take]; omega
  have h1 := wants_ok (ops := ops) (done := ops.toList.take i) (ds := dsAt ops.toList i) (o := o) (g := g) (op := a) (dst := dst) rfl (fun j hj => by rw [hdone] at hj; rw [List.getElem?_take_of_lt hj]; simp) (C.srAt S H r ho) (by rw [hdone]; exact hg)
  unfold guardOf at hg
  unfold wants at h1 ⊢
  unfold Region.wanted at h1 ⊢
  cases hgu : o.guard with
  | none => rw [hgu] at hg; simp at hg; subst hg; rfl
  | some p =>
    obtain ⟨j, want⟩ := p
    rw [hgu] at hg h1
    simp only at hg
    split at hg <;> try simp only [reduceCtorEq] at hg
    rename_i d hat
    split at hg <;> try simp only [reduceCtorEq] at hg
    rename_i i' hi'
    cases hc : (Nat.beq i' (i - 1 - j) && Nat.blt j i) <;> simp only [hc, cond_true, cond_false, Option.some.injEq, reduceCtorEq] at hg
    subst hg
    simp only [Bool.and_eq_true, nbeq, nblt, decide_eq_true_eq] at hc
    obtain ⟨rfl, hj⟩ := hc
    rw [at?_eq] at hat
    obtain ⟨_, q, hq, hqd⟩ := (dsAt_get hil).1 hat
    rw [show i - 1 - (i - 1 - j) = j from by omega] at hq
    have hu : d ∈ looks ops.toList o := looks_guard hgu hq hqd
    have e1 : nth (maskS (looks ops.toList o) (dsAt ops.toList i) (st i).1) (i - 1 - j) = nth (st i).1 (i - 1 - j) := by
      have := mask_ev (U := looks ops.toList o) (ds := dsAt ops.toList i) (s := (st i).1) (vs := (st i).2.1.vars) (vt := vt) (x := .tmp d) (y := .t (i - 1 - j)) (fun u hu' => by simp at hu'; rw [← hu']; exact hu) (by simp only [compX, hi'])
      simpa [ev] using this
    have e2 : yielded ops (maskT (looks ops.toList o) t) j = yielded ops t j := by
      have hdst : (ops[j]?).bind (·.dst) = some d := by
        have : ops[j]? = some q := by simpa using hq
        rw [this]; exact hqd
      have hm := maskT_get (looks ops.toList o) t d
      rw [if_pos hu] at hm
      unfold yielded
      rw [hdst]
      simp only [Option.bind_some]
      by_cases hlt : d < t.size
      · have hlt2 : d < (maskT (looks ops.toList o) t).size := by rw [maskT_size]; exact hlt
        simp only [Array.getD_eq_getD_getElem?, Array.getElem?_eq_getElem hlt, Array.getElem?_eq_getElem hlt2, Option.getD_some] at hm
        rw [Array.getElem?_eq_getElem hlt, Array.getElem?_eq_getElem hlt2, hm]
      · have hge : t.size ≤ d := Nat.le_of_not_lt hlt
        rw [Array.getElem?_eq_none (by rw [maskT_size]; exact hge), Array.getElem?_eq_none hge]
    simp only [e1, e2] at h1
    simpa [hgu] using h1
end
end
end RunC
end AM

/- Regions that draw their order: one operation more is done. -/
namespace AM
open Go

theorem putT_same {t : Array Value} {u : Tmp} {v : Value} (h : u < t.size) : (putT t (some u) v).getD u undef = v := by
  simp only [putT]; rw [getD_put t u u v h, if_pos rfl]
theorem putT_ne {t : Array Value} {d : Option Tmp} {u : Tmp} {v : Value} (h : d ≠ some u) : (putT t d v).getD u undef = t.getD u undef := by
  cases d with
  | none => rfl
  | some d =>
    have hne : d ≠ u := fun e => h (by rw [e])
    simp only [putT, Array.getD_eq_getD_getElem?, Array.getElem?_setIfInBounds_ne hne]
namespace RunC
section
variable {P : Program} {T : Tys} {rec : Rec} {rd : Option Nat} {vt : List Tmp} {nt : Nat} {ops : Array Oper} {l : List AOper} {ancs : List Nat} {plan : Plan} {x : St} {lim : Nat} {skip : Nat → Bool} {st : Nat → St}
variable (C : RunC P T rec rd vt nt ops l ancs plan x lim skip st) {D : Nat → Bool} {bs : Nat} (S : DS l ancs lim D bs) {i : Nat} (r : Ready l ancs D i)
include C S r
theorem putDT {σ σ' : Gh} {t : Array Value} (H : DT vt nt ops x st D bs σ t) {o : Oper} (ho : ops[i]? = some o) {bs' : Nat} (hb : nxAt st bs ≤ nxAt st bs') (hle : σ.le σ') {v' : Value}
    (hv : VR (σ'.below (max (nxAt st (i + 1)) (nxAt st bs'))) (valAt st i) v') : DT vt nt ops x st (addD D i) bs' σ' (putT t o.dst v') := by
  refine ⟨fun k q hq hk u hu hlast => ?_, fun j u hj hnone => ?_, fun j u hj => by rw [size_putT]; exact H.varlt j u hj, by rw [size_putT]; exact H.ntle⟩
  · by_cases hki : k = i
    · subst hki
      rw [ho] at hq; simp only [Option.some.injEq] at hq; subst hq
      obtain ⟨_, _, _, _, _, hlt⟩ := C.R.op k o ho
      rw [hu, putT_same (Nat.lt_of_lt_of_le (hlt u hu) H.ntle)]
      exact hv
    · have hD : D k = true := (addD_iff.1 hk).resolve_left hki
      have hne : o.dst ≠ some u := by
        intro hou
        have h1 := hlast i o ho (addD_iff.2 (.inl rfl)) hou
        have := S.down _ _ hD (C.R.write ho hq hou hu (by omega))
        rw [r.not] at this; simp at this
      rw [putT_ne hne]
      refine (H.slots k q hq hD u hu fun k' q' hq' hD' hu' => hlast k' q' hq' (addD_iff.2 (.inr hD')) hu').mono (Gh.below_mono hle ?_)
      omega
  · have hne : o.dst ≠ some u := hnone i o ho (addD_iff.2 (.inl rfl))
    rw [putT_ne hne]
    exact (H.vars j u hj fun k q hq hD => hnone k q hq (addD_iff.2 (.inr hD))).mono (Gh.below_mono hle hb)
section
variable {b : Frame} {cs : List Frame} {ρ0 : Gh} {w0 : World} {σ : Gh} {w : World} {d : List Deferred} (W : DW T l rd skip st b cs ρ0 w0 D bs σ w d)
include W
omit C S r in
theorem plainDW (hna : ¬ IsAl l skip st i) : DW T l rd skip st b cs ρ0 w0 (addD D i) bs σ w d :=
  ⟨W.base, fun o g v h => (W.dom o g v h).imp id fun ⟨a, h1, h2⟩ => ⟨a, addD_iff.2 (.inr h1), h2⟩, fun a h1 h2 h3 => W.pend a ((addD_iff.1 h1).resolve_left fun e => hna (e ▸ h3)) h2 h3, W.inb, W.sep, W.defers, W.pan, W.round, W.adv⟩
omit r in
/-- What was made behind the last effect, in its order. -/
theorem absorbed {j : Nat} (hj : bs ≤ j) (hjl : j ≤ l.length) (hc : calm l bs j) (hall : ∀ a, bs ≤ a → a < j → IsAl l skip st a → D a = true) : MR T (σ.below (nxAt st j)) (st j).2.2 w := by
  induction j with
  | zero => rw [← Nat.le_zero.1 hj]; exact W.base
  | succ j ih =>
    by_cases h : bs = j + 1
    · subst h; exact W.base
    · have ih := ih (by omega) (by omega) (hc.mono (Nat.le_refl _) (by omega)) (fun a h1 h2 => hall a h1 (by omega))
      obtain ⟨o, ho, _⟩ := C.at_ (i := j) (by omega)
      obtain ⟨h1, _⟩ := C.quiet ho (hc j o (by omega) (by omega) ho)
      rcases h1 with h1 | h1
      · obtain ⟨y, h2, h3⟩ := W.pend j (hall j (by omega) (by omega) h1) (by omega) h1
        have e1 := C.alNext h1
        have := MR.absorb (σ := σ) (m := (st j).2.2) (x := y) ih W.inb W.sep (by rw [e1] at h3; exact h3)
        unfold nxAt
        rw [h2]
        exact this
      · unfold nxAt at ih ⊢
        rw [h1]; exact ih
theorem atEff {o : AOper} (ho : l[i]? = some o) (he : cls o.op = .eff) : MR T (σ.below (nxAt st i)) (st i).2.2 w := by
  refine C.absorbed S W (C.behind S r ho (.inl he)) (Nat.le_of_lt r.lt) (C.calmEff S r ho he) fun a _ h2 h3 => ?_
  obtain ⟨q, hq, _, _, hcl⟩ := h3.go
  exact r.ahead _ (C.R.eff hq ho he (.inr hcl) h2)
theorem pendOrd {o : AOper} (ho : l[i]? = some o) {a : Nat} (ha : D a = true) (hal : IsAl l skip st a) : (a < i ∧ nxAt st a < nxAt st i) ∨ (i < a ∧ nxAt st (i + 1) ≤ nxAt st a) := by
  have hal2 := C.alLt hal
  have _ := S.bsle
  have _ := W.inb
  rcases Nat.lt_trichotomy a i with h | h | h
  · refine .inl ⟨h, ?_⟩
    have h1 := C.nx_mono (i := a + 1) (k := i) (by omega) (Nat.le_of_lt r.lt)
    have h2 := C.alNext hal
    omega
  · subst h; rw [r.not] at ha; simp at ha
  · exact .inr ⟨h, C.nx_mono (by omega) (by omega)⟩
/-- An effect that isn't wanted. -/
theorem outDW {o : AOper} (ho : l[i]? = some o) (he : cls o.op = .eff) (hs : st (i + 1) = (.und :: (st i).1, (st i).2.1.put o.dst .und, (st i).2.2)) : DW T l rd skip st b cs ρ0 w0 (addD D i) (i + 1) σ w d := by
  have hb := C.behind S r ho (.inl he)
  have hm := C.atEff S r W ho he
  have hn : nxAt st (i + 1) = nxAt st i := by unfold nxAt; rw [hs]
  have hbn := C.nx_mono hb (Nat.le_of_lt r.lt)
  have hle : (σ.below (nxAt st bs)).le (σ.below (nxAt st (i + 1))) := Gh.below_mono (Gh.le.refl _) (by omega)
  obtain ⟨f1, f2, f3⟩ := C.frames hb (Nat.le_of_lt r.lt) (C.calmEff S r ho he)
  refine ⟨by rw [hn, hs]; exact hm, fun o' g v h => ?_, fun a h1 h2 h3 => W.pend a ((addD_iff.1 h1).resolve_left (by omega)) (by omega) h3, W.inb, W.sep, ?_, ?_, W.round.mono hle, W.adv⟩
  · rcases W.dom o' g v h with h | ⟨a, h1, h2, h3, rfl⟩
    · exact .inl (by omega)
    · rcases C.pendOrd S r W ho h1 h3 with h4 | h4
      · exact .inl (by omega)
      · exact .inr ⟨a, addD_iff.2 (.inr h1), by omega, h3, rfl⟩
  · rw [hs]; exact f1 ▸ W.defers.mono hle
  · rw [hs]; exact f2 ▸ f3 ▸ W.pan.mono hle
/-- An effect. -/
theorem effDW {o : AOper} (ho : l[i]? = some o) (he : cls o.op = .eff) {v : AV} {fr1 : Fr} {m1 : Mem} (hs : st (i + 1) = (v :: (st i).1, fr1.put o.dst v, m1)) {ρ' : Gh} {w' : World} {d' : List Deferred}
    (hM : MR T ρ' m1 w') (hA : Adv (σ.below (nxAt st i)) w ρ' w') (hd : DRs ρ' fr1.defers d') (hp : PanR ρ' b.kind cs fr1.pan fr1.did) :
    ∃ σ' : Gh, σ.le σ' ∧ σ'.below (nxAt st (i + 1)) = ρ' ∧ DW T l rd skip st b cs ρ0 w0 (addD D i) (i + 1) σ' w' d' := by
  have hb := C.behind S r ho (.inl he)
  have hn : nxAt st (i + 1) = m1.next := by unfold nxAt; rw [hs]
  have hbn := C.nx_mono hb (Nat.le_of_lt r.lt)
  have hin := C.nx_succ r.lt
  let σ' : Gh := fun o g => if o < nxAt st (i + 1) then ρ' o g else σ o g
  have hlow : ∀ {o g : Nat}, o < nxAt st (i + 1) → σ' o g = ρ' o g := fun h => if_pos h
  have hhigh : ∀ {o g : Nat}, ¬ o < nxAt st (i + 1) → σ' o g = σ o g := fun h => if_neg h
  -- what was known and lies below, lies below this effect
  have hsm : ∀ {o g v}, σ o g = some v → o < nxAt st (i + 1) → o < nxAt st i := by
    intro o' g v h ho'
    rcases W.dom o' g v h with h | ⟨a, h1, h2, h3, rfl⟩
    · omega
    · rcases C.pendOrd S r W ho h1 h3 with h4 | h4
      · exact h4.2
      · omega
  have hle : σ.le σ' := by
    intro o' g v h
    by_cases hlt : o' < nxAt st (i + 1)
    · rw [hlow hlt]
      exact hA.le _ _ _ (by rw [Gh.below_lt (hsm h hlt)]; exact h)
    · rw [hhigh hlt]; exact h
  have hbel : σ'.below (nxAt st (i + 1)) = ρ' := by
    funext o' g
    unfold Gh.below
    by_cases hlt : o' < nxAt st (i + 1)
    · rw [if_pos hlt, hlow hlt]
    · rw [if_neg hlt]
      cases hx : ρ' o' g with
      | none => rfl
      | some v => exact absurd (hn ▸ hM.dom _ _ _ hx) hlt
  -- the rows that the effect may have turned are none of those that wait
  have hfar : ∀ {o g v o2 g2 v2}, ρ' o g = some v → σ o2 g2 = some v2 → ¬ o2 < nxAt st (i + 1) → v.rw = true ∨ v2.rw = true → v.block = v2.block → False := by
    intro o1 g1 v1 o2 g2 v2 h1 h2 h3 hr hbl
    rcases hA.new _ _ _ h1 with h1 | ⟨_, h1 | ⟨g3, v3, h4, h5, h6⟩⟩
    · obtain ⟨h4, h5⟩ := Gh.below_some h1
      have : o1 = o2 := hr.elim (fun hr => W.sep _ _ _ _ _ _ h5 h2 hr hbl) (fun hr => (W.sep _ _ _ _ _ _ h2 h5 hr hbl.symm).symm)
      omega
    · have := W.inb _ _ _ h2; omega
    · obtain ⟨h7, h8⟩ := Gh.below_some h4
      have : o1 = o2 := W.sep _ _ _ _ _ _ h8 h2 h5 (h6.trans hbl)
      omega
  have hkeep : ∀ {o g v}, σ o g = some v → ¬ o < nxAt st (i + 1) → w'.heap[v.block]? = w.heap[v.block]? := by
    intro o1 g1 v1 h1 h2
    refine hA.keep.block _ (W.inb _ _ _ h1) fun o2 g2 v2 h3 hr hbl => ?_
    obtain ⟨h4, h5⟩ := Gh.below_some h3
    have : o2 = o1 := W.sep _ _ _ _ _ _ h5 h1 hr hbl
    omega
  refine ⟨σ', hle, hbel, ?_⟩
  refine ⟨by rw [hbel, hs]; exact hM, fun o' g v h => ?_, fun a h1 h2 h3 => ?_, fun o' g v h => ?_, fun o1 g1 v1 o2 g2 v2 h1 h2 hr hbl => ?_, by rw [hbel, hs]; exact hd, by rw [hbel, hs]; exact hp, ?_, W.adv.trans ⟨hle, fun o' g v h => ?_, hA.keep.mono (Gh.below_le _ _)⟩⟩
  · by_cases hlt : o' < nxAt st (i + 1)
    · exact .inl hlt
    · rw [hhigh hlt] at h
      rcases W.dom o' g v h with h | ⟨a, h1, h2, h3, rfl⟩
      · exact absurd (by omega) hlt
      · rcases C.pendOrd S r W ho h1 h3 with h4 | h4
        · exact absurd (by omega) hlt
        · exact .inr ⟨a, addD_iff.2 (.inr h1), by omega, h3, rfl⟩
  · have hDa : D a = true := (addD_iff.1 h1).resolve_left (by omega)
    obtain ⟨y, h4, h5⟩ := W.pend a hDa (by omega) h3
    have hge : nxAt st (i + 1) ≤ nxAt st a := C.nx_mono (by omega) (Nat.le_of_lt (C.alLt h3))
    refine ⟨y, h4, h5.keep (Gh.below_mono hle (Nat.le_refl _)) (fun g v hv => ?_) fun g hg => ?_⟩
    · exact hkeep (Gh.below_some hv).2 (by omega)
    · have := C.alNext h3
      rw [Gh.below_lt (by omega)] at hg ⊢
      rw [hhigh (by omega)]; exact hg
  · by_cases hlt : o' < nxAt st (i + 1)
    · rw [hlow hlt] at h; exact hM.inb _ _ _ h
    · rw [hhigh hlt] at h; exact Nat.lt_of_lt_of_le (W.inb _ _ _ h) hA.keep.size
  · by_cases l1 : o1 < nxAt st (i + 1)
    · rw [hlow l1] at h1
      by_cases l2 : o2 < nxAt st (i + 1)
      · rw [hlow l2] at h2; exact hM.sep _ _ _ _ _ _ h1 h2 hr hbl
      · rw [hhigh l2] at h2; exact (hfar h1 h2 l2 (.inl hr) hbl).elim
    · rw [hhigh l1] at h1
      by_cases l2 : o2 < nxAt st (i + 1)
      · rw [hlow l2] at h2; exact (hfar h2 h1 l1 (.inr hr) hbl.symm).elim
      · rw [hhigh l2] at h2; exact W.sep _ _ _ _ _ _ h1 h2 hr hbl
  · rw [hbel]
    exact (W.round.mono (Gh.below_mono (Gh.le.refl _) hbn)).mono hA.le
  · by_cases hlt : o' < nxAt st (i + 1)
    · rw [hlow hlt] at h
      rcases hA.new _ _ _ h with h | ⟨h1, h2 | ⟨g3, v3, h4, h5⟩⟩
      · exact .inl (Gh.below_some h).2
      · exact .inr ⟨h1, .inl h2⟩
      · exact .inr ⟨h1, .inr ⟨g3, v3, (Gh.below_some h4).2, h5⟩⟩
    · rw [hhigh hlt] at h; exact .inl h
/-- Memory that is made. -/
theorem allocDW {o : AOper} (ho : l[i]? = some o) (hal : IsAl l skip st i) {y : Obj} (hs : (st (i + 1)).2.2 = (st i).2.2.push y) {w' : World} {z : Go.Obj} {v : Loc} (hheap : w'.heap = w.heap.push z) (hos : w'.os = w.os) (ht : w'.tape = w.tape) (hout : w'.output = w.output)
    (hvb : v.block = w.heap.size) (hvr : v.rw = true) (hobj : ∀ (ρ' : Gh) (w2 : World), (σ.below (nxAt st i)).le ρ' → ρ' (nxAt st i) 0 = some v → (∀ g, 0 < g → ρ' (nxAt st i) g = none) → w2.heap[w.heap.size]? = some z → ObjR T ρ' (nxAt st i) w2 y) :
    ∃ σ' : Gh, σ.le σ' ∧ (σ.below (nxAt st i)).le (σ'.below (nxAt st (i + 1))) ∧ (σ'.below (nxAt st (i + 1))) (nxAt st i) 0 = some v ∧ (∀ g, 0 < g → (σ'.below (nxAt st (i + 1))) (nxAt st i) g = none) ∧ w'.heap[w.heap.size]? = some z ∧ DW T l rd skip st b cs ρ0 w0 (addD D i) bs σ' w' d := by
  have hcl : cls o.op = .alloc := by
    obtain ⟨q, hq, _, _, h⟩ := hal.go
    rw [ho] at hq; simp at hq; subst hq; exact h
  have hb := C.behind S r ho (.inr hcl)
  have hbn := C.nx_mono hb (Nat.le_of_lt r.lt)
  have hn := C.alNext hal
  have hnone : ∀ g, σ (nxAt st i) g = none := fun g => by
    cases h : σ (nxAt st i) g with
    | none => rfl
    | some v1 =>
      rcases W.dom _ _ _ h with h | ⟨a, h1, h2, h3, h4⟩
      · omega
      · rcases C.pendOrd S r W ho h1 h3 with h5 | h5 <;> omega
  let σ' : Gh := fun o g => if o = nxAt st i then (if g = 0 then some v else none) else σ o g
  have hne : ∀ {o g : Nat}, o ≠ nxAt st i → σ' o g = σ o g := fun h => if_neg h
  have heq0 : σ' (nxAt st i) 0 = some v := by simp [σ']
  have heqg : ∀ g, 0 < g → σ' (nxAt st i) g = none := fun g hg => by simp [σ']; omega
  have hle : σ.le σ' := fun o1 g1 v1 h1 => by
    by_cases e : o1 = nxAt st i
    · subst e; rw [hnone] at h1; simp at h1
    · rw [hne e]; exact h1
  have hle2 : (σ.below (nxAt st i)).le (σ'.below (nxAt st (i + 1))) := Gh.below_mono hle (by omega)
  have hnew : w'.heap[w.heap.size]? = some z := by rw [hheap]; exact Array.getElem?_push_size
  have hold : ∀ k, k < w.heap.size → w'.heap[k]? = w.heap[k]? := fun k hk => by rw [hheap, Array.getElem?_push, if_neg (by omega)]
  have hsz : w.heap.size ≤ w'.heap.size := by rw [hheap]; simp
  have hb0 : (σ'.below (nxAt st (i + 1))) (nxAt st i) 0 = some v := by rw [Gh.below_lt (by omega)]; exact heq0
  have hbg : ∀ g, 0 < g → (σ'.below (nxAt st (i + 1))) (nxAt st i) g = none := fun g hg => by rw [Gh.below_lt (by omega)]; exact heqg g hg
  have hbase : σ'.below (nxAt st bs) = σ.below (nxAt st bs) := by
    funext o1 g1
    unfold Gh.below
    by_cases h : o1 < nxAt st bs
    · rw [if_pos h, if_pos h, hne (by omega)]
    · rw [if_neg h, if_neg h]
  have hget : ∀ {o1 g1 v1}, σ' o1 g1 = some v1 → (o1 = nxAt st i ∧ v1 = v) ∨ (o1 ≠ nxAt st i ∧ σ o1 g1 = some v1) := by
    intro o1 g1 v1 h
    by_cases e : o1 = nxAt st i
    · subst e
      by_cases hg : g1 = 0
      · subst hg; rw [heq0] at h; simp at h; exact .inl ⟨rfl, h.symm⟩
      · rw [heqg g1 (by omega)] at h; simp at h
    · rw [hne e] at h; exact .inr ⟨e, h⟩
  refine ⟨σ', hle, hle2, hb0, hbg, hnew, ?_⟩
  refine ⟨by rw [hbase]; exact W.base.more hsz hold, fun o1 g1 v1 h => ?_, fun a h1 h2 h3 => ?_, fun o1 g1 v1 h => ?_, fun o1 g1 v1 o2 g2 v2 h1 h2 hr hbl => ?_, by rw [hbase]; exact W.defers, by rw [hbase]; exact W.pan, by rw [hbase]; exact W.round, W.adv.trans ⟨hle, fun o1 g1 v1 h => ?_, ⟨hos, ht, hout, hsz, fun k hk _ => hold k hk⟩⟩⟩
  · rcases hget h with ⟨rfl, _⟩ | ⟨_, h⟩
    · exact .inr ⟨i, addD_iff.2 (.inl rfl), hb, hal, rfl⟩
    · exact (W.dom _ _ _ h).imp id fun ⟨a, h1, h2⟩ => ⟨a, addD_iff.2 (.inr h1), h2⟩
  · rcases addD_iff.1 h1 with rfl | h1
    · exact ⟨y, hs, hobj _ _ hle2 hb0 hbg hnew⟩
    · obtain ⟨q, h4, h5⟩ := W.pend a h1 h2 h3
      have hna : nxAt st a ≠ nxAt st i := by
        rcases C.pendOrd S r W ho h1 h3 with h5 | h5 <;> omega
      refine ⟨q, h4, h5.keep (Gh.below_mono hle (Nat.le_refl _)) (fun g v1 hv1 => hold _ (W.inb _ _ _ (Gh.below_some hv1).2)) fun g hg => ?_⟩
      have := C.alNext h3
      rw [Gh.below_lt (by omega)] at hg ⊢
      rw [hne hna]; exact hg
  · rcases hget h with ⟨_, rfl⟩ | ⟨_, h⟩
    · rw [hvb, hheap]; simp
    · exact Nat.lt_of_lt_of_le (W.inb _ _ _ h) hsz
  · rcases hget h1 with ⟨e1, q1⟩ | ⟨e1, h1⟩
    · rcases hget h2 with ⟨e2, q2⟩ | ⟨e2, h2⟩
      · rw [e1, e2]
      · have := W.inb _ _ _ h2
        rw [q1, hvb] at hbl; omega
    · rcases hget h2 with ⟨e2, q2⟩ | ⟨e2, h2⟩
      · have := W.inb _ _ _ h1
        rw [q2, hvb] at hbl; omega
      · exact W.sep _ _ _ _ _ _ h1 h2 hr hbl
  · rcases hget h with ⟨_, rfl⟩ | ⟨_, h⟩
    · exact .inr ⟨hvr, .inl (by omega)⟩
    · exact .inl h
end
end
end RunC
end AM

/- Regions that draw their order: the machine's step. -/
namespace AM
open Go

theorem MR.single {T : Tys} {σ : Gh} {n : Nat} {w : World} (inb : ∀ o g l, σ o g = some l → l.block < w.heap.size)
    (sep : ∀ o g l o' g' l', σ o g = some l → σ o' g' = some l' → l.rw = true → l.block = l'.block → o = o') {o : Nat} {x : Obj} (ho : o < n) (hx : ObjR T (σ.below n) o w x) :
    MR T (σ.below n) { tr := Trie.leaf.set o x, next := n } w := by
  have hget : ∀ k, (Mem.mk (Trie.leaf.set o x) n).get k = if k = o then some x else none := fun k => by
    show (Trie.leaf.set o x).get k = _
    rw [Trie.get_set]; rfl
  refine ⟨fun o g l h => (Gh.below_some h).1, fun o g l h => inb o g l (Gh.below_some h).2, fun o g l o' g' l' h h' hr hb => sep o g l o' g' l' (Gh.below_some h).2 (Gh.below_some h').2 hr hb, fun k y hy => ?_, fun k hk => ?_⟩
  · rw [hget] at hy
    by_cases e : k = o
    · subst e; simp at hy; subst hy; exact hx
    · rw [if_neg e] at hy; simp at hy
  · rw [hget, if_neg]
    have : n ≤ k := hk
    omega
theorem MR.empty {T : Tys} {σ : Gh} {n : Nat} {w : World} (inb : ∀ o g l, σ o g = some l → l.block < w.heap.size)
    (sep : ∀ o g l o' g' l', σ o g = some l → σ o' g' = some l' → l.rw = true → l.block = l'.block → o = o') :
    MR T (σ.below n) { tr := Trie.leaf, next := n } w :=
  ⟨fun o g l h => (Gh.below_some h).1, fun o g l h => inb o g l (Gh.below_some h).2, fun o g l o' g' l' h h' hr hb => sep o g l o' g' l' (Gh.below_some h).2 (Gh.below_some h').2 hr hb, fun k y hy => by simp [Mem.get, Trie.get_leaf] at hy, fun k hk => rfl⟩
theorem ObjR.below {T : Tys} {σ : Gh} {n n' o : Nat} {w : World} {x : Obj} (h : ObjR T (σ.below n) o w x) (ho : o < n) (hn : n ≤ n') : ObjR T (σ.below n') o w x :=
  h.keep (Gh.below_mono (Gh.le.refl _) hn) (fun _ _ _ => rfl) fun g hg => by rw [Gh.below_lt ho] at hg; rw [Gh.below_lt (by omega)]; exact hg
theorem plain_notSpec {a : AOp} (h : cls a ≠ .eff) : isSpec a = false := by cases a <;> first | rfl | exact absurd rfl h
theorem notDefer_of {T : Tys} {vt : List Tmp} {ds : List (Option Tmp)} {o : Oper} {a : AOp} (hc : compOp T vt ds o.op = some a) (h : cls a ≠ .eff) (b : Frame) : notDefer b o := by
  refine .inr fun c hcc => ?_
  rw [hcc] at hc
  have := comp_notDefer hc
  rw [plain_notSpec h] at this
  simp at this
namespace RunC
section
variable {P : Program} {T : Tys} {rec : Rec} {rd : Option Nat} {vt : List Tmp} {nt : Nat} {ops : Array Oper} {l : List AOper} {ancs : List Nat} {plan : Plan} {x : St} {lim : Nat} {skip : Nat → Bool} {st : Nat → St}
variable (C : RunC P T rec rd vt nt ops l ancs plan x lim skip st) {D : Nat → Bool} {bs : Nat} (S : DS l ancs lim D bs) {i : Nat} (r : Ready l ancs D i)
variable {b : Frame} {cs : List Frame} {ρ0 : Gh} {w0 : World} {σ : Gh} {w : World} {d : List Deferred} (W : DW T l rd skip st b cs ρ0 w0 D bs σ w d)
variable {t : Array Value} (H : DT vt nt ops x st D bs σ t) {o : Oper} (ho : ops[i]? = some o)
include C S r W H ho
theorem readAt {a : AOper} (hl : l[i]? = some a) (hcomp : compOp T vt (dsAt ops.toList i) o.op = some a.op) (hsk : skip i = false) (hw : wants (st i).1 a = true) (hcl : cls a.op = .read)
    (hown : readOp T (st i).1 (st i).2.1.vars a.op (st i).2.2 = some (valAt st i)) :
    ∃ m1, MR T (σ.below (max (nxAt st i) (nxAt st bs))) m1 w ∧ readOp T (maskS (looks ops.toList o) (dsAt ops.toList i) (st i).1) (maskV (looks ops.toList o) vt (st i).2.1.vars) a.op m1 = some (valAt st i) := by
  have hsr := C.srAt S H r ho
  have hev := C.evAt (i := i) (o := o) hcomp
  -- an object that an operand leads to
  have htop : ∀ {y : AX} {q : Nat}, y ∈ a.op.args → (ev (st i).1 (st i).2.1.vars y).top = some q → ∃ g v, (σ.below (max (nxAt st i) (nxAt st bs))) q g = some v := by
    intro y q hy hq
    obtain ⟨z, hz, hzc⟩ := comp_args hcomp y hy
    rw [hev y hy] at hq
    exact (ev_ok hsr hzc).top hq
  have fin : ∀ {m : Mem}, readOp T (st i).1 (st i).2.1.vars a.op m = some (valAt st i) → (∀ q z g v, m.get q = some z → (σ.below (max (nxAt st i) (nxAt st bs))) q g = some v → ObjR T (σ.below (max (nxAt st i) (nxAt st bs))) q w z) →
      ∃ m1, MR T (σ.below (max (nxAt st i) (nxAt st bs))) m1 w ∧ readOp T (maskS (looks ops.toList o) (dsAt ops.toList i) (st i).1) (maskV (looks ops.toList o) vt (st i).2.1.vars) a.op m1 = some (valAt st i) := by
    intro m hm hobj
    rcases readOp_local hm with h | ⟨y, hy, q, z, hq, hz, h⟩
    · exact ⟨_, MR.empty W.inb W.sep, by rw [← readOp_congr hev]; exact h _⟩
    · obtain ⟨g, v, hv⟩ := htop hy hq
      refine ⟨_, MR.single W.inb W.sep (Gh.below_some hv).1 (hobj q z g v hz hv), ?_⟩
      rw [← readOp_congr hev]
      refine h _ ?_
      show (Trie.leaf.set q z).get q = _
      rw [Trie.get_set, if_pos rfl]
  by_cases hA : bs ≤ i ∧ calm l bs i
  · -- where its text has it
    obtain ⟨hA1, hA2⟩ := hA
    have hbn := C.nx_mono hA1 (Nat.le_of_lt r.lt)
    refine fin hown fun q z g v hz hv => ?_
    obtain ⟨h1, h2⟩ := Gh.below_some hv
    rcases W.dom _ _ _ h2 with h3 | ⟨p, h3, h4, h5, rfl⟩
    · rw [C.getKeep hA1 (Nat.le_of_lt r.lt) hA2 h3] at hz
      exact (W.base.obj _ _ hz).below h3 (Nat.le_max_right _ _)
    · rcases C.pendOrd S r W hl h3 h5 with h6 | h6
      · obtain ⟨y, h7, h8⟩ := W.pend p h3 h4 h5
        have hn := C.alNext h5
        rw [C.getKeep (i := p + 1) (k := i) (by omega) (Nat.le_of_lt r.lt) (hA2.mono (by omega) (Nat.le_refl _)) (by omega), h7, Mem.get_push, if_pos (by rfl)] at hz
        simp only [Option.some.injEq] at hz
        subst hz
        have := C.nx_mono (i := p + 1) (k := i) (by omega) (Nat.le_of_lt r.lt)
        exact h8.below (by omega) (by omega)
      · have := C.nx_mono (i := i) (k := i + 1) (by omega) r.lt
        omega
  · -- elsewhere
    have hplan : bs ∈ planAt plan i := by
      have h1 := planAt_eq (ancs := ancs) (es := effs 0 l) (i0 := 0) hl hcl
      rw [Nat.zero_add] at h1
      rw [C.R.plan, h1, basesFor_mem]
      refine ⟨S.bsb, fun he => hA ?_, mayAt_iff.2 fun e hee => ?_⟩
      · obtain ⟨_, h2, h3⟩ := baseOf_spec (i := i) (b := 0) (es := effs 0 l) effs_sorted (fun _ _ => Nat.zero_le _) (Nat.zero_le _)
        refine ⟨by omega, fun a' q h4 h5 hq hc => ?_⟩
        have := h3 a' (effs_mem.2 ⟨a', q, hq, hc, by omega⟩) h5
        omega
      · obtain ⟨k, q, hq, hc, rfl⟩ := effs_mem.1 hee
        simp only [Nat.zero_add]
        refine ⟨fun hk => ?_, fun hk => ?_⟩
        · cases hb : bitAt ancs k i with
          | false => rfl
          | true =>
            have := S.down _ _ ((S.eff k q hq hc).2 hk) hb
            rw [r.not] at this; simp at this
        · cases hb : bitAt ancs i k with
          | false => rfl
          | true =>
            have := (S.eff k q hq hc).1 (r.ahead _ hb)
            omega
    obtain ⟨vs, hvs, hread⟩ := C.tr.read i a hl hsk hw hcl bs hplan S.bsb S.bsle
    have hread : readOp T (st i).1 (st i).2.1.vars a.op (st bs).2.2 = some (valAt st i) := by
      rcases hvs with rfl | ⟨_, rfl⟩
      · refine (readOp_congr fun y hy => ?_).trans hread
        obtain ⟨z, hz, hzc⟩ := comp_args hcomp y hy
        cases y with
        | t k => rfl
        | c v => rfl
        | v j =>
          cases z with
          | tmp u =>
            simp only [compX] at hzc
            split at hzc <;> try simp only [Option.some.injEq, reduceCtorEq] at hzc
            rename_i hnone
            split at hzc <;> simp only [Option.some.injEq, reduceCtorEq, AX.v.injEq] at hzc
            rename_i j' hj'
            subst hzc
            have hil : i ≤ ops.toList.length := by have := r.lt; rw [C.R.len] at this; simp; omega
            simp only [ev]
            rw [C.varsLast (Nat.le_of_lt r.lt) j' u (idxIn_some hj') (fun k q hk hq hqd => absurd hqd (writer_none hil hnone k q hk (by simpa using hq))), hnone]
          | const v => simp only [compX] at hzc; split at hzc <;> simp at hzc
          | func f => simp [compX] at hzc
          | global g => simp [compX] at hzc
      · exact hread
    refine fin hread fun q z g v hz hv => ?_
    have h3 : q < nxAt st bs := Nat.lt_of_not_le fun hle => by have := W.base.fresh q hle; rw [this] at hz; simp at hz
    exact (W.base.obj _ _ hz).below h3 (Nat.le_max_right _ _)
theorem step_ (hsk : skip i = false) (rest : List Nat) (k : List Item) :
    ∃ bs' σ' w' t' d', DS l ancs lim (addD D i) bs' ∧ DT vt nt ops x st (addD D i) bs' σ' t' ∧ DW T l rd skip st b cs ρ0 w0 (addD D i) bs' σ' w' d' ∧
      Steps P (lone (fat b t d (.inRegion ops (i :: rest) :: k)) (calOf b.kind cs (st bs).2.1.did) w) (lone (fat b t' d' (.inRegion ops rest :: k)) (calOf b.kind cs (st bs').2.1.did) w') := by
  obtain ⟨a, g, hl, hcomp, hguard, hdst⟩ := C.R.op i o ho
  have hlim : i ≠ lim := by
    rintro rfl
    rw [C.limskip r.lt] at hsk; simp at hsk
  have hlate : cls a = .eff → i < lim := fun he => Nat.lt_of_not_le fun h => (C.tr.late i _ hl h hsk).1 he
  have hwanted := C.wantsAt S H r ho (a := a) (dst := dstOf vt o.dst) hguard
  have hsr := C.srAt S H r ho
  have hev := C.evAt (i := i) (o := o) hcomp
  have hex := exAt (t := t) (ops := ops) hcomp
  have hmax : nxAt st i ≤ nxAt st (i + 1) := C.nx_succ r.lt
  cases C.tr.step _ _ hl with
  | skip h _ => rw [hsk] at h; simp at h
  | out _ hw e =>
    rw [hw] at hwanted
    have hst := st_op_skip (P := P) (b := b) (t := t) (d := d) (k := k) (cs := calOf b.kind cs (st bs).2.1.did) (w := w) (rest := rest) ho hwanted.symm
    have hval : valAt st i = .und := by unfold valAt; rw [e]; rfl
    by_cases he : cls a = .eff
    · refine ⟨i + 1, σ, w, putT t o.dst undef, d, C.putDS_eff S r hl he (hlate he), C.putDT S r H ho (C.nx_mono (by have := C.behind S r hl (.inl he); omega) r.lt) (Gh.le.refl _) (by rw [hval]; exact .und), C.outDW S r W hl he e, ?_⟩
      have hdid : (st (i + 1)).2.1.did = (st bs).2.1.did := by
        rw [e]
        exact (C.frames (C.behind S r hl (.inl he)) (Nat.le_of_lt r.lt) (C.calmEff S r hl he)).2.2
      rw [hdid]
      exact .one hst
    · refine ⟨bs, σ, w, putT t o.dst undef, d, putDS_plain S r hl he hlim, C.putDT S r H ho (Nat.le_refl _) (Gh.le.refl _) (by rw [hval]; exact .und), plainDW W fun hal => ?_, .one hst⟩
      obtain ⟨q, hq, _, h2, _⟩ := hal.go
      rw [hl] at hq; simp only [Option.some.injEq] at hq; subst hq
      rw [hw] at h2; simp at h2
  | val _ hw v fr1 m1 hop e =>
    rw [hw] at hwanted
    have hval : valAt st i = v := by unfold valAt; rw [e]; rfl
    have hnal : cls a ≠ .alloc → ¬ IsAl l skip st i := fun h hal => by
      obtain ⟨q, hq, _, _, h2⟩ := hal.go
      rw [hl] at hq; simp only [Option.some.injEq] at hq; subst hq
      exact h h2
    cases hcl : cls a with
    | pure =>
      simp only at hop
      rw [opRun_pure hcl] at hop
      cases hp : pureOp T (st i).1 (st i).2.1.vars a with
      | none => rw [hp] at hop; simp at hop
      | some u =>
        rw [hp] at hop
        simp only [Option.map_some, Option.some.injEq, Prod.mk.injEq, OpR.val.injEq] at hop
        obtain ⟨rfl, rfl, rfl⟩ := hop
        rw [pureOp_congr hev] at hp
        obtain ⟨v', h1, h2⟩ := pure_ok (P := P) (w := w) C.hT hsr hcomp hcl hp
        rw [← hex] at h1
        refine ⟨bs, σ, w, putT t o.dst v', d, putDS_plain S r hl (by simp only; rw [hcl]; simp) hlim, C.putDT S r H ho (Nat.le_refl _) (Gh.le.refl _) (by rw [hval]; exact h2.mono (Gh.below_mono (Gh.le.refl _) (by omega))), plainDW W (hnal (by rw [hcl]; simp)), ?_⟩
        exact .one (st_op_value ho hwanted.symm (notDefer_of hcomp (by rw [hcl]; simp) b) h1)
    | read =>
      simp only at hop
      rw [opRun_read hcl] at hop
      cases hp : readOp T (st i).1 (st i).2.1.vars a (st i).2.2 with
      | none => rw [hp] at hop; simp at hop
      | some u =>
        rw [hp] at hop
        simp only [Option.map_some, Option.some.injEq, Prod.mk.injEq, OpR.val.injEq] at hop
        obtain ⟨rfl, rfl, rfl⟩ := hop
        rw [← hval] at hp
        obtain ⟨mx, hM, hr⟩ := C.readAt S r W H ho hl hcomp hsk hw hcl hp
        obtain ⟨v', h1, h2⟩ := read_ok (P := P) C.hT hM hsr hcomp hcl hr
        rw [← hex] at h1
        refine ⟨bs, σ, w, putT t o.dst v', d, putDS_plain S r hl (by simp only; rw [hcl]; simp) hlim, C.putDT S r H ho (Nat.le_refl _) (Gh.le.refl _) (h2.mono (Gh.below_mono (Gh.le.refl _) (by omega))), plainDW W (hnal (by rw [hcl]; simp)), ?_⟩
        exact .one (st_op_value ho hwanted.symm (notDefer_of hcomp (by rw [hcl]; simp) b) h1)
    | alloc =>
      have hal : IsAl l skip st i := ⟨⟨_, hl, hsk, hw, hcl⟩⟩
      have hb := C.behind S r hl (.inr hcl)
      have hbn := C.nx_mono hb (Nat.le_of_lt r.lt)
      have hmx : max (nxAt st i) (nxAt st bs) = nxAt st i := by omega
      rw [hmx] at hsr
      simp only at hop
      rw [opRun_alloc hcl, allocOp_congr hev, allocOp_eq] at hop
      cases hp : allocP (maskS (looks ops.toList o) (dsAt ops.toList i) (st i).1) (maskV (looks ops.toList o) vt (st i).2.1.vars) a with
      | none => rw [hp] at hop; simp at hop
      | some p =>
        obtain ⟨y, f⟩ := p
        rw [hp] at hop
        simp only [Option.map_some, Option.some.injEq, Prod.mk.injEq, OpR.val.injEq] at hop
        obtain ⟨rfl, rfl, rfl⟩ := hop
        obtain ⟨w', z, v', v1, h1, h2, h3, h4, h5, h6, h7, h8⟩ := (alloc_spec (P := P) C.hT hsr hcomp hcl hp w).go
        obtain ⟨σ', g1, g2, g3, g4, g5, g6⟩ := C.allocDW S r W hl hal (y := y) (by rw [e]) h2 h3 h4 h5 h6 h7 fun ρ' w2 q1 q2 q3 q4 => (h8 ρ' _ w2 q1 q2 q3 q4).1
        rw [← hex] at h1
        refine ⟨bs, σ', w', putT t o.dst v', d, putDS_plain S r hl (by simp only; rw [hcl]; simp) hlim, C.putDT S r H ho (Nat.le_refl _) g1 ?_, g6, .one (st_op_value ho hwanted.symm (notDefer_of hcomp (by rw [hcl]; simp) b) h1)⟩
        rw [hval]
        exact ((h8 _ _ w' g2 g3 g4 g5).2).mono (Gh.below_mono (Gh.le.refl _) (by omega))
    | eff =>
      have hb := C.behind S r hl (.inl hcl)
      have hbn := C.nx_mono hb (Nat.le_of_lt r.lt)
      have hmx : max (nxAt st i) (nxAt st bs) = nxAt st i := by omega
      rw [hmx] at hsr
      have hM := C.atEff S r W hl hcl
      obtain ⟨f1, f2, f3⟩ := C.frames hb (Nat.le_of_lt r.lt) (C.calmEff S r hl hcl)
      have hle : (σ.below (nxAt st bs)).le (σ.below (nxAt st i)) := Gh.below_mono (Gh.le.refl _) hbn
      have hop2 := (opRun_congr (s' := maskS (looks ops.toList o) (dsAt ops.toList i) (st i).1) (vs' := maskV (looks ops.toList o) vt (st i).2.1.vars) hev hop).1
      obtain ⟨ρ', w', d', q1, q2, _, q4, q5, v', q6, q7⟩ := op_sound C.hT C.hrec hM (fr := { (st i).2.1 with vars := maskV (looks ops.toList o) vt (st i).2.1.vars }) (d := d) (b := b) (cs := cs) (rd := rd) hsr
        (by show DRs _ (st i).2.1.defers d; rw [f1]; exact W.defers.mono hle) (by show PanR _ _ _ (st i).2.1.pan (st i).2.1.did; rw [f2, f3]; exact W.pan.mono hle) (W.round.mono hle) hex ho hwanted.symm hcomp hop2 rest k
      obtain ⟨σ', g1, g2, g3⟩ := C.effDW S r W hl hcl e q1 q2 q4 q5
      refine ⟨i + 1, σ', w', putT t o.dst v', d', C.putDS_eff S r hl hcl (hlate hcl), C.putDT S r H ho (C.nx_mono (by omega) r.lt) g1 ?_, g3, ?_⟩
      · rw [hval, Nat.max_self, g2]; exact q6
      · have e1 : (st bs).2.1.did = (st i).2.1.did := f3.symm
        have e2 : (st (i + 1)).2.1.did = fr1.did := by rw [e]; rfl
        rw [e1, e2]
        exact q7
end
end RunC
end AM

/- Code. -/
namespace AM
open Go
section
variable {P : Program} {T : Tys}
/-- What is asked of regions that draw their order. -/
def DrawOK (P : Program) (T : Tys) (rec : Rec) : Prop :=
  ∀ {vt : List Tmp} {nt id : Nat} {ops : Array Oper} {l : List AOper} {ancs : List Nat} {plan : Plan} {fr : Fr} {rd : Option Nat} {m : Mem} {e : Ex} {fr' : Fr} {m' : Mem}, comp T vt nt (.region id ops true) = .draw l ancs plan →
    drawRun T rec rd l ancs plan fr.vars 0 l [(0, m)] [] fr m = some (e, fr', m') →
    ∀ {ρ : Gh} {w : World} {b : Frame} {cs : List Frame} {k : List Item} {t : Array Value} {d : List Deferred}, MR T ρ m w → FrR ρ vt nt rd fr b cs t d →
      Lands P T ρ w vt nt rd b cs k (lone (fat b t d (.code (.region id ops true) :: k)) (calOf b.kind cs fr.did) w) e fr' m'
/-- Of a loop over a function. -/
def RangeOK (P : Program) (T : Tys) (rec : Rec) : Prop :=
  ∀ {vt : List Tmp} {nt : Nat} {f : Operand} {params : Array Tmp} {assign body : Code} {fr : Fr} {rd : Option Nat} {m : Mem} {e : Ex} {fr' : Fr} {m' : Mem},
    codeRun T rec rd (comp T vt nt (.rangeFunc f params assign body)) fr m = some (e, fr', m') →
    ∀ {ρ : Gh} {w : World} {b : Frame} {cs : List Frame} {k : List Item} {t : Array Value} {d : List Deferred}, MR T ρ m w → FrR ρ vt nt rd fr b cs t d →
      Lands P T ρ w vt nt rd b cs k (lone (fat b t d (.code (.rangeFunc f params assign body) :: k)) (calOf b.kind cs fr.did) w) e fr' m'
theorem Lands.plain {ρ : Gh} {w : World} {vt nt rd b cs k x start e fr m} (hx : ∀ id, exitTo id (x :: k) = exitTo id k) (hn : e ≠ .normal) (h : Lands P T ρ w vt nt rd b cs (x :: k) start e fr m) : Lands P T ρ w vt nt rd b cs k start e fr m := by
  obtain ⟨ρ', w', t', d', h1, h2, h3⟩ := h
  refine ⟨ρ', w', t', d', h1, h2, ?_⟩
  cases e with
  | normal => exact absurd rfl hn
  | exit id => obtain ⟨h4, kk, h5, h6⟩ := h3; exact ⟨h4, kk, h5.trans (hx id), h6⟩
  | ret => exact h3
  | panic v => exact h3
theorem code_sound (hT : TysOK P T) {rec : Rec} (hrec : RecOK P T rec) (hdraw : DrawOK P T rec) (hrange : RangeOK P T rec) {vt : List Tmp} {nt : Nat} {rd : Option Nat} : ∀ (c : Code) {fr : Fr} {m : Mem} {e : Ex} {fr' : Fr} {m' : Mem}, codeRun T rec rd (comp T vt nt c) fr m = some (e, fr', m') →
    ∀ {ρ : Gh} {w : World} {b : Frame} {cs : List Frame} {k : List Item} {t : Array Value} {d : List Deferred}, MR T ρ m w → FrR ρ vt nt rd fr b cs t d →
      Lands P T ρ w vt nt rd b cs k (lone (fat b t d (.code c :: k)) (calOf b.kind cs fr.did) w) e fr' m' := by
  intro c
  induction c with
  | skip =>
    intro fr m e fr' m' h ρ w b cs k t d H hf
    simp only [comp, codeRun, Option.some.injEq, Prod.mk.injEq] at h
    obtain ⟨rfl, rfl, rfl⟩ := h
    exact ⟨ρ, w, t, d, H, .refl _ _, hf, .one st_skip⟩
  | label l =>
    intro fr m e fr' m' h ρ w b cs k t d H hf
    simp only [comp, codeRun, Option.some.injEq, Prod.mk.injEq] at h
    obtain ⟨rfl, rfl, rfl⟩ := h
    exact ⟨ρ, w, t, d, H, .refl _ _, hf, .one st_label⟩
  | exit id =>
    intro fr m e fr' m' h ρ w b cs k t d H hf
    simp only [comp, codeRun, Option.some.injEq, Prod.mk.injEq] at h
    obtain ⟨rfl, rfl, rfl⟩ := h
    exact ⟨ρ, w, t, d, H, .refl _ _, hf, k, rfl, .refl _ _⟩
  | ret =>
    intro fr m e fr' m' h ρ w b cs k t d H hf
    simp only [comp, codeRun, Option.some.injEq, Prod.mk.injEq] at h
    obtain ⟨rfl, rfl, rfl⟩ := h
    exact ⟨ρ, w, t, d, H, .refl _ _, hf, k, .refl _ _⟩
  | region id ops draw =>
    intro fr m e fr' m' h ρ w b cs k t d H hf
    cases hc : compOps T vt nt [] 0 ops.toList with
    | none => simp [comp, hc, codeRun] at h
    | some l =>
      cases draw with
      | true =>
        cases ho : orders (ancsOf ops.toList []) [] (zip3 ops.toList ops.toList l) with
        | false => simp [comp, hc, ho, codeRun] at h
        | true =>
        have hcomp : ∃ ancs plan, comp T vt nt (.region id ops true) = .draw l ancs plan := by simp [comp, hc, ho]
        obtain ⟨ancs, plan, hcomp⟩ := hcomp
        rw [hcomp] at h
        exact hdraw hcomp h H hf
      | false =>
        simp only [comp, hc, cond_false, codeRun] at h
        have := ops_sound (k := k) hT hrec ops.toList [] (ops := ops) rfl rfl hc h (ρ := ρ) (w := w) (cs := cs) (b := b) H hf.sr hf
        refine Lands.from (.one st_region) (.refl _ _) ?_
        rw [List.range_eq_range']
        simpa using this
  | seq x y ihx ihy =>
    intro fr m e fr' m' h ρ w b cs k t d H hf
    simp only [comp, codeRun] at h
    split at h
    · rename_i fr1 m1 h1
      obtain ⟨ρ1, w1, t1, d1, hM, hA, hF, hS⟩ := ihx h1 (k := .code y :: k) H hf
      exact Lands.from (.head st_seq hS) hA (ihy h hM hF)
    · rename_i hne
      have h1 := ihx h (k := .code y :: k) H hf
      have hn : e ≠ .normal := by
        rintro rfl
        exact hne _ _ h
      exact Lands.from (.one st_seq) (.refl _ _) (h1.plain (fun _ => rfl) hn)
  | cond x y z ihy ihz =>
    intro fr m e fr' m' h ρ w b cs k t d H hf
    cases hx : compX vt [] x with
    | none => simp [comp, hx, codeRun] at h
    | some x' =>
      simp only [comp, hx, codeRun] at h
      have hv := ev_ok hf.sr hx
      split at h
      · rename_i v hev
        rw [hev] at hv
        have hb : evalT t x = .bool v := by
          generalize evalT t x = q at hv
          cases hv; rfl
        have hst := st_cond (P := P) (b := b) (d := d) (k := k) (cs := calOf b.kind cs fr.did) (w := w) (x := y) (y := z) hb
        cases v with
        | true => exact Lands.from (.one hst) (.refl _ _) (ihy h H hf)
        | false => exact Lands.from (.one hst) (.refl _ _) (ihz h H hf)
      · simp at h
  | block id y ih =>
    intro fr m e fr' m' h ρ w b cs k t d H hf
    simp only [comp, codeRun] at h
    split at h
    · rename_i j fr1 m1 h1
      simp only [Option.some.injEq, Prod.mk.injEq] at h
      obtain ⟨rfl, rfl, rfl⟩ := h
      obtain ⟨ρ1, w1, t1, d1, hM, hA, hF, kk, hkk, hS⟩ := ih h1 (k := .inBlock id :: k) H hf
      by_cases hj : j = id
      · subst hj
        simp only [nbeq, decide_true, cond_true]
        have hk : exitTo j kk = some k := by rw [hkk]; simp [exitTo]
        exact ⟨ρ1, w1, t1, d1, hM, hA, hF, .head st_block (hS.trans (.one (st_exit hk)))⟩
      · simp only [nbeq, hj, decide_false, cond_false]
        refine ⟨ρ1, w1, t1, d1, hM, hA, hF, kk, ?_, .head st_block hS⟩
        rw [hkk]
        simp [exitTo, Ne.symm hj]
    · rename_i hne
      have h1 := ih h (k := .inBlock id :: k) H hf
      cases e with
      | normal =>
        obtain ⟨ρ1, w1, t1, d1, hM, hA, hF, hS⟩ := h1
        exact ⟨ρ1, w1, t1, d1, hM, hA, hF, .head st_block (hS.trans (.one st_inBlock))⟩
      | exit j => exact absurd h (hne _ _ _)
      | ret => exact Lands.from (.one st_block) (.refl _ _) h1
      | panic v => exact Lands.from (.one st_block) (.refl _ _) h1
  | loop y ih =>
    intro fr m e fr' m' h ρ w b cs k t d H hf
    simp only [comp, codeRun] at h
    split at h <;> simp only [Option.some.injEq, Prod.mk.injEq, reduceCtorEq] at h
    rename_i e1 fr1 m1 h1
    obtain ⟨rfl, rfl, rfl⟩ := h
    exact Lands.from (.one st_loop) (.refl _ _) (hrec.loop h1 H hf)
  | rangeFunc f params assign body _ _ =>
    intro fr m e fr' m' h ρ w b cs k t d H hf
    exact hrange h H hf
  | _ =>
    intro fr m e fr' m' h
    simp [comp, codeRun] at h
end
end AM

/- Regions that draw their order: the theorem. -/
namespace AM
open Go

theorem opRun_panic_eff {T : Tys} {rec : Rec} {rd : Option Nat} {s : List AV} {a : AOp} {fr fr1 : Fr} {m m1 : Mem} {v : AV} (h : opRun T rec rd s a fr m = some (.panic v, fr1, m1)) : cls a = .eff := by
  cases hc : cls a with
  | eff => rfl
  | pure => rw [opRun_pure hc] at h; cases hp : pureOp T s fr.vars a <;> rw [hp] at h <;> simp at h
  | read => rw [opRun_read hc] at h; cases hp : readOp T s fr.vars a m <;> rw [hp] at h <;> simp at h
  | alloc => rw [opRun_alloc hc] at h; cases hp : allocOp s fr.vars a m <;> rw [hp] at h <;> simp at h
theorem forget_get : ∀ {l : List AOper} {vs : List AV} {j : Nat}, j < vs.length → (nth (forget vs l) j = .und ∧ (forget vs l)[j]? = some .und) ∨ ((∀ q ∈ l, q.dst ≠ some j) ∧ (forget vs l)[j]? = vs[j]?)
  | [], vs, j, _ => .inr ⟨by simp, rfl⟩
  | o :: l, vs, j, hj => by
    have hlen : (putS vs o.dst .und).length = vs.length := by cases o.dst <;> simp [putS, upd_eq]
    rcases forget_get (l := l) (vs := putS vs o.dst .und) (j := j) (by rw [hlen]; exact hj) with h | ⟨h1, h2⟩
    · exact .inl h
    · simp only [forget]
      by_cases hd : o.dst = some j
      · refine .inl ?_
        have : (forget (putS vs o.dst .und) l)[j]? = some .und := by rw [h2, hd]; simp [putS, upd_eq, hj]
        exact ⟨by rw [nth_eq, this]; rfl, this⟩
      · refine .inr ⟨fun q hq => ?_, ?_⟩
        · rcases List.mem_cons.1 hq with rfl | hq
          · exact hd
          · exact h1 q hq
        · rw [h2]
          cases hx : o.dst with
          | none => rfl
          | some k =>
            have : k ≠ j := fun e => hd (by rw [hx, e])
            simp [putS, upd_eq, List.getElem?_set_ne this]
theorem binds_core (e : Edge) : Region.binds .any e = core e := by
  unfold Region.binds core
  cases e.ground <;> rfl
namespace RunC
section
variable {P : Program} {T : Tys} {rec : Rec} {rd : Option Nat} {vt : List Tmp} {nt : Nat} {ops : Array Oper} {l : List AOper} {ancs : List Nat} {plan : Plan} {x : St} {lim : Nat} {skip : Nat → Bool} {st : Nat → St}
variable (C : RunC P T rec rd vt nt ops l ancs plan x lim skip st) {D : Nat → Bool} {bs : Nat} (S : DS l ancs lim D bs)
variable {b : Frame} {cs : List Frame} {ρ0 : Gh} {w0 : World} {σ : Gh} {w : World} {d : List Deferred} (W : DW T l rd skip st b cs ρ0 w0 D bs σ w d)
variable {t : Array Value} (H : DT vt nt ops x st D bs σ t)
include C S W H
/-- The panic. -/
theorem panic_ (hdom0 : ∀ o g v, ρ0 o g = some v → o < nxAt st 0) (r : Ready l ancs D lim) {o : Oper} (ho : ops[lim]? = some o) {a : AOper} (hl : l[lim]? = some a) (hw : wants (st lim).1 a = true) {v : AV} {fr1 : Fr} {m1 : Mem}
    (hop : opRun T rec rd (st lim).1 a.op (st lim).2.1 (st lim).2.2 = some (.panic v, fr1, m1)) (rest : List Nat) (k k' : List Item) :
    Lands P T ρ0 w0 vt nt rd b cs k' (lone (fat b t d (.inRegion ops (lim :: rest) :: k)) (calOf b.kind cs (st bs).2.1.did) w) (.panic v) { fr1 with vars := forget fr1.vars l } m1 := by
  obtain ⟨a', g, hl', hcomp, hguard, hdst⟩ := C.R.op lim o ho
  rw [hl] at hl'
  simp only [Option.some.injEq] at hl'
  subst hl'
  have hcl := opRun_panic_eff hop
  simp only at hop hcl
  have hwanted := C.wantsAt S H r ho (a := a') (dst := dstOf vt o.dst) hguard
  rw [hw] at hwanted
  have hsr := C.srAt S H r ho
  have hev := C.evAt (i := lim) (o := o) hcomp
  have hex := exAt (t := t) (ops := ops) hcomp
  have hb := C.behind S r hl (.inl hcl)
  have hbn := C.nx_mono hb (Nat.le_of_lt r.lt)
  have hmx : max (nxAt st lim) (nxAt st bs) = nxAt st lim := by omega
  rw [hmx] at hsr
  have hM := C.atEff S r W hl hcl
  obtain ⟨f1, f2, f3⟩ := C.frames hb (Nat.le_of_lt r.lt) (C.calmEff S r hl hcl)
  have hle : (σ.below (nxAt st bs)).le (σ.below (nxAt st lim)) := Gh.below_mono (Gh.le.refl _) hbn
  have hop2 := (opRun_congr (s' := maskS (looks ops.toList o) (dsAt ops.toList lim) (st lim).1) (vs' := maskV (looks ops.toList o) vt (st lim).2.1.vars) hev hop).1
  obtain ⟨ρ', w', d', q1, q2, _, q4, q5, v', todo, q6, q7, q8⟩ := op_sound C.hT C.hrec hM (fr := { (st lim).2.1 with vars := maskV (looks ops.toList o) vt (st lim).2.1.vars }) (d := d) (b := b) (cs := cs) (rd := rd) hsr
    (by show DRs _ (st lim).2.1.defers d; rw [f1]; exact W.defers.mono hle) (by show PanR _ _ _ (st lim).2.1.pan (st lim).2.1.did; rw [f2, f3]; exact W.pan.mono hle) (W.round.mono hle) hex ho hwanted.symm hcomp hop2 rest k
  have hadv : Adv ρ0 w0 (σ.below (nxAt st lim)) w := by
    refine ⟨fun o g v h => ?_, fun o g v h => W.adv.new _ _ _ (Gh.below_some h).2, W.adv.keep⟩
    rw [Gh.below_lt (Nat.lt_of_lt_of_le (hdom0 _ _ _ h) (C.nx_mono (Nat.zero_le _) (Nat.le_of_lt r.lt)))]
    exact W.adv.le _ _ _ h
  refine ⟨ρ', w', t, d', q1, hadv.trans q2, ⟨H.ntle, fun j u hj => ⟨H.varlt j u hj, ?_⟩, q4, q5, (W.round.mono hle).mono q2.le⟩, v', todo, q6, q7, ?_⟩
  · have hfv : fr1.vars = (st lim).2.1.vars := opRun_vars hop
    have hjl : j < fr1.vars.length := by rw [hfv, C.vlen (Nat.le_of_lt r.lt)]; exact C.hv j u hj
    rcases forget_get (l := l) hjl with ⟨_, h2⟩ | ⟨h1, h2⟩
    · exact ⟨_, h2, .inl rfl⟩
    · have hno : ∀ (k : Nat) (q : Oper), ops[k]? = some q → q.dst ≠ some u := fun k q hq hqd => by
        obtain ⟨_, _, h3, _⟩ := C.R.op k q hq
        refine h1 _ (List.mem_of_getElem? h3) ?_
        rw [hqd]
        exact idxIn_eq C.nodup hj
      refine ⟨nth (st lim).2.1.vars j, ?_, .inr ?_⟩
      · show (forget fr1.vars l)[j]? = _
        rw [h2, hfv, nth_eq]
        rw [hfv] at hjl
        rw [List.getElem?_eq_getElem hjl]; rfl
      · rw [C.varsLast (Nat.le_of_lt r.lt) j u hj fun k q _ hq hqd => absurd hqd (hno k q hq)]
        have hnone : idxOp u (dsAt ops.toList lim) = none := by
          cases hi : idxOp u (dsAt ops.toList lim) with
          | none => rfl
          | some idx =>
            have hil : lim ≤ ops.toList.length := by have := r.lt; rw [C.R.len] at this; simp; omega
            obtain ⟨_, ⟨q, hq, hqd⟩, _⟩ := writer_some hil hi
            exact absurd hqd (hno _ q (by simpa using hq))
        rw [hnone]
        exact ((H.vars j u hj fun k q hq _ => hno k q hq).mono hle).mono q2.le
  · rw [show (st bs).2.1.did = (st lim).2.1.did from f3.symm]
    exact q8
/-- The end. -/
theorem end_ (hdom0 : ∀ o g v, ρ0 o g = some v → o < nxAt st 0) (hall : ∀ i, i < l.length → D i = true) (k : List Item) :
    Lands P T ρ0 w0 vt nt rd b cs k (lone (fat b t d (.inRegion ops [] :: k)) (calOf b.kind cs (st bs).2.1.did) w) .normal (st l.length).2.1 (st l.length).2.2 := by
  have hcalm : calm l bs l.length := fun a o h1 h2 ho hc => by
    have := (S.eff a o ho hc).1 (hall a h2)
    omega
  have hbl := C.bslen S
  have hM := C.absorbed S W hbl (Nat.le_refl _) hcalm fun a _ h2 _ => hall a h2
  obtain ⟨f1, f2, f3⟩ := C.frames hbl (Nat.le_refl _) hcalm
  have hbn := C.nx_mono hbl (Nat.le_refl _)
  have hle : (σ.below (nxAt st bs)).le (σ.below (nxAt st l.length)) := Gh.below_mono (Gh.le.refl _) hbn
  have hadv : Adv ρ0 w0 (σ.below (nxAt st l.length)) w := by
    refine ⟨fun o g v h => ?_, fun o g v h => W.adv.new _ _ _ (Gh.below_some h).2, W.adv.keep⟩
    rw [Gh.below_lt (Nat.lt_of_lt_of_le (hdom0 _ _ _ h) (C.nx_mono (Nat.zero_le _) (Nat.le_refl _)))]
    exact W.adv.le _ _ _ h
  refine ⟨_, w, t, d, hM, hadv, ⟨C.nodup, H.ntle, fun j u hj => ⟨H.varlt j u hj, nth (st l.length).2.1.vars j, ?_, ?_⟩, by rw [f1]; exact W.defers.mono hle, by rw [f2, f3]; exact W.pan.mono hle, W.round.mono hle⟩, ?_⟩
  · have hjl : j < (st l.length).2.1.vars.length := by rw [C.vlen (Nat.le_refl _)]; exact C.hv j u hj
    rw [nth_eq, List.getElem?_eq_getElem hjl]; rfl
  · have hil : l.length ≤ ops.toList.length := by have := C.R.len; simp; omega
    rw [C.varsLast (Nat.le_refl _) j u hj fun k q hk _ _ => C.noskip S (hall k hk)]
    cases hi : idxOp u (dsAt ops.toList l.length) with
    | none =>
      refine (H.vars j u hj fun k q hq _ => ?_).mono hle
      exact writer_none hil hi k q (C.R.lt hq) (by simpa using hq)
    | some idx =>
      obtain ⟨h1, ⟨q, hq, hqd⟩, h3⟩ := writer_some hil hi
      simp only
      rw [C.stack (Nat.le_refl _) h1]
      refine (H.slots _ q (by simpa using hq) (hall _ (by omega)) u hqd fun k z hz _ hzd => h3 k z (C.R.lt hz) (by simpa using hz) hzd).mono (Gh.below_mono (Gh.le.refl _) ?_)
      have := C.nx_mono (i := l.length - 1 - idx + 1) (k := l.length) (by omega) (Nat.le_refl _)
      omega
  · rw [f3]
    exact .one st_region_end
end
end RunC
section
variable {P : Program} {T : Tys} {rec : Rec} {rd : Option Nat} {vt : List Tmp} {nt : Nat} {ops : Array Oper} {l : List AOper} {ancs : List Nat} {plan : Plan} {x : St} {lim : Nat} {skip : Nat → Bool} {st : Nat → St}
/-- What the run ends in. -/
inductive EndR (T : Tys) (rec : Rec) (rd : Option Nat) (l : List AOper) (lim : Nat) (st : Nat → St) : Ex → Fr → Mem → Prop
  | normal (h : lim = l.length) : EndR T rec rd l lim st .normal (st l.length).2.1 (st l.length).2.2
  | panic {a : AOper} {v : AV} {fr1 : Fr} {m1 : Mem} (hl : l[lim]? = some a) (hw : wants (st lim).1 a = true) (hop : opRun T rec rd (st lim).1 a.op (st lim).2.1 (st lim).2.2 = some (.panic v, fr1, m1)) : EndR T rec rd l lim st (.panic v) { fr1 with vars := forget fr1.vars l } m1
theorem sched (C : RunC P T rec rd vt nt ops l ancs plan x lim skip st) {b : Frame} {cs : List Frame} {ρ0 : Gh} {w0 : World} (hdom0 : ∀ o g v, ρ0 o g = some v → o < nxAt st 0) {e : Ex} {fr' : Fr} {m' : Mem} (E : EndR T rec rd l lim st e fr' m') (k : List Item) :
    ∀ (fuel tape : Nat) (listed : Array Bool) {D : Nat → Bool} {bs : Nat} {σ : Gh} {w : World} {t : Array Value} {d : List Deferred}, listed.size = ops.size → (∀ i, D i = listed.getD i false) → ((List.range ops.size).filter fun i => !D i).length ≤ fuel →
      DS l ancs lim D bs → DW T l rd skip st b cs ρ0 w0 D bs σ w d → DT vt nt ops x st D bs σ t →
      Lands P T ρ0 w0 vt nt rd b cs k (lone (fat b t d (.inRegion ops (Region.linearise.go .any ops fuel tape listed []) :: k)) (calOf b.kind cs (st bs).2.1.did) w) e fr' m' := by
  -- at the end all is done
  have fin : ∀ {D : Nat → Bool} {bs : Nat} {σ : Gh} {w : World} {t : Array Value} {d : List Deferred}, (∀ i, i < l.length → D i = true) → DS l ancs lim D bs → DW T l rd skip st b cs ρ0 w0 D bs σ w d → DT vt nt ops x st D bs σ t →
      Lands P T ρ0 w0 vt nt rd b cs k (lone (fat b t d (.inRegion ops [] :: k)) (calOf b.kind cs (st bs).2.1.did) w) e fr' m' := by
    intro D bs σ w t d hall S W H
    cases E with
    | normal h => exact C.end_ S W H hdom0 hall k
    | panic hl _ _ =>
      have hlt := (List.getElem?_eq_some_iff.1 hl).1
      have := S.nop hlt
      rw [hall _ hlt] at this; simp at this
  intro fuel
  induction fuel with
  | zero =>
    intro tape listed D bs σ w t d hsz hD hf S W H
    simp only [Region.linearise.go, List.reverse_nil]
    refine fin (fun i hi => ?_) S W H
    cases hx : D i with
    | true => rfl
    | false =>
      have : i ∈ (List.range ops.size).filter fun i => !D i := List.mem_filter.2 ⟨List.mem_range.2 (by rw [← C.R.len]; exact hi), by simp [hx]⟩
      rw [List.length_eq_zero_iff.1 (Nat.le_zero.1 hf)] at this
      simp at this
  | succ fuel ih =>
    intro tape listed D bs σ w t d hsz hD hf S W H
    have hrs : ∀ i, i ∈ Region.ready .any ops listed ↔ i < ops.size ∧ D i = false ∧ ∀ o, ops[i]? = some o → ∀ e ∈ o.after.toList, core e = true → D e.on = true := by
      intro i
      unfold Region.ready
      rw [List.mem_filter, List.mem_range]
      refine and_congr_right fun hi => ?_
      have h1 : listed.getD i true = D i := by
        rw [hD, Array.getD_eq_getD_getElem?, Array.getD_eq_getD_getElem?, Array.getElem?_eq_getElem (by rw [hsz]; exact hi)]; rfl
      rw [h1, Array.getElem?_eq_getElem hi]
      simp only [Option.map_some, Option.getD_some, Bool.and_eq_true, Bool.not_eq_true', Array.all_eq_true', Bool.or_eq_true, binds_core, Option.some.injEq, Array.mem_toList_iff, ← hD]
      refine and_congr_right fun _ => ?_
      constructor
      · rintro h o rfl e he hc
        exact (h e he).resolve_left (by simp [hc])
      · intro h e he
        cases hc : core e with
        | false => exact .inl rfl
        | true => exact .inr (h _ rfl e he hc)
    simp only [Region.linearise.go]
    change Lands P T ρ0 w0 vt nt rd b cs k (lone (fat b t d (.inRegion ops (match (Region.ready .any ops listed)[tape % (Region.ready .any ops listed).length]? with
      | some i => Region.linearise.go .any ops fuel (tape / (Region.ready .any ops listed).length) (listed.setIfInBounds i true) [i]
      | none => [].reverse) :: k)) (calOf b.kind cs (st bs).2.1.did) w) e fr' m'
    cases hi : (Region.ready .any ops listed)[tape % (Region.ready .any ops listed).length]? with
    | none =>
      have hnil : Region.ready .any ops listed = [] := by
        cases hr : Region.ready .any ops listed with
        | nil => rfl
        | cons y ys =>
          rw [hr] at hi
          have hlt : tape % (y :: ys).length < (y :: ys).length := Nat.mod_lt _ (by simp)
          rw [List.getElem?_eq_none_iff] at hi
          omega
      simp only [List.reverse_nil]
      refine fin (fun i => ?_) S W H
      induction i using Nat.strongRecOn with
      | ind i ihi =>
        intro hil
        cases hx : D i with
        | true => rfl
        | false =>
          have : i ∈ Region.ready .any ops listed := (hrs i).2 ⟨by rw [← C.R.len]; exact hil, hx, fun o ho e he hc => ihi _ (C.R.back i o ho e he hc) (by have := C.R.back i o ho e he hc; omega)⟩
          rw [hnil] at this; simp at this
    | some i =>
      simp only []
      rw [linearise_go_acc, List.reverse_singleton, List.singleton_append]
      obtain ⟨h1, h2, h3⟩ := (hrs i).1 (List.mem_of_getElem? hi)
      obtain ⟨o, ho⟩ : ∃ o, ops[i]? = some o := ⟨_, Array.getElem?_eq_getElem h1⟩
      have r : Ready l ancs D i := ⟨by rw [C.R.len]; exact h1, h2, fun a ha => by
        rw [C.R.anc] at ha
        obtain ⟨o', ho', e, he, hc, hx⟩ := bit_edge ha
        have ho2 : o' = o := by
          have : ops[i]? = some o' := by simpa using ho'
          rw [ho] at this; simpa using this.symm
        subst ho2
        have hde := h3 o' ho e he hc
        rcases hx with rfl | ⟨_, hx⟩
        · exact hde
        · rw [← C.R.anc] at hx
          exact S.down _ _ hde hx⟩
      by_cases hsk : skip i = true
      · -- the one that panics
        have hlim := C.skipReady S r hsk
        subst hlim
        cases E with
        | normal h => have := r.lt; omega
        | panic hl hw hop => exact C.panic_ S W H hdom0 r ho hl hw hop _ k k
      · have hsk : skip i = false := by simpa using hsk
        obtain ⟨bs', σ', w', t', d', S', H', W', hst⟩ := C.step_ S r W H ho hsk (Region.linearise.go .any ops fuel (tape / (Region.ready .any ops listed).length) (listed.setIfInBounds i true) []) k
        obtain ⟨ρ', w2, t2, d2, g1, g2, g3⟩ := ih (tape / (Region.ready .any ops listed).length) (listed.setIfInBounds i true) (D := addD D i) (by simpa using hsz) (fun q => by
          unfold addD
          rw [hD, Array.getD_eq_getD_getElem?, Array.getD_eq_getD_getElem?]
          by_cases hq : q = i
          · subst hq; simp [hsz, h1]
          · rw [Array.getElem?_setIfInBounds_ne (Ne.symm hq)]; simp [hq]) (by
          have e1 : ((List.range ops.size).filter fun q => !addD D i q) = (((List.range ops.size).filter fun q => !D q).filter fun q => !(q == i)) := by
            rw [List.filter_filter]
            congr 1
            funext q
            unfold addD
            cases q == i <;> cases D q <;> rfl
          have e2 : (((List.range ops.size).filter fun q => !D q).filter fun q => !(q == i)).length < ((List.range ops.size).filter fun q => !D q).length :=
            List.length_filter_lt_length_iff_exists.2 ⟨i, List.mem_filter.2 ⟨List.mem_range.2 h1, by simp [h2]⟩, by simp⟩
          rw [e1]; omega) S' W' H'
        refine ⟨ρ', w2, t2, d2, g1, g2, ?_⟩
        cases e with
        | normal => exact ⟨g3.1, hst.trans g3.2⟩
        | exit id => obtain ⟨q1, kk, q2, q3⟩ := g3; exact ⟨q1, kk, q2, hst.trans q3⟩
        | ret => obtain ⟨q1, kk, q3⟩ := g3; exact ⟨q1, kk, hst.trans q3⟩
        | panic v => obtain ⟨q1, v', todo, q2, q3, q4⟩ := g3; exact ⟨q1, v', todo, q2, q3, hst.trans q4⟩
theorem draw_ok (hT : TysOK P T) (hm : P.follows .mixedOrders = true) (hrec : RecOK P T rec) (hmono : RecMono rec) : DrawOK P T rec := by
  intro vt nt id ops l ancs plan fr rd m e fr' m' hcomp hrun ρ w b cs k t d H hf
  have R := reg_of hcomp
  have hend := drawRun_end (T := T) (rec := rec) (rd := rd) (l := l) (x := ([], fr, m)) (ancs := ancs) (plan := plan) (vs := fr.vars) l 0 [(0, m)] rfl (Nat.zero_le _) (fun i o hi => absurd hi (Nat.not_lt_zero i))
    (fun q hq hq0 => by
      have : q = 0 := Nat.le_zero.1 hq0
      subst this; simp [getM, stAt]) hrun
  -- the world, when the order has been drawn
  let w1 : World := { w with drawn := w.drawn + 1 }
  have hM1 : MR T ρ m w1 := H.more (Nat.le_refl _) fun _ _ => rfl
  have hA1 : Adv ρ w ρ w1 := ⟨Gh.le.refl _, fun _ _ _ h => .inl h, rfl, rfl, rfl, Nat.le_refl _, fun _ _ _ => rfl⟩
  have hbel : ρ.below m.next = ρ := Gh.below_all H.dom
  have hstep := st_region_draw (P := P) (b := b) (t := t) (d := d) (k := k) (cs := calOf b.kind cs fr.did) (w := w) (ops := ops) (id := id)
  simp only [Region.schedule, hm, Bool.true_or, if_true] at hstep
  have main : ∀ {lim : Nat} {skip : Nat → Bool} {st : Nat → St}, Trace T rec rd l ancs plan ([], fr, m) lim skip st → lim ≤ l.length → (lim < l.length → skip lim = true) → EndR T rec rd l lim st e fr' m' →
      Lands P T ρ w vt nt rd b cs k (lone (fat b t d (.code (.region id ops true) :: k)) (calOf b.kind cs fr.did) w) e fr' m' := by
    intro lim skip st tr hlim hls E
    have C : RunC P T rec rd vt nt ops l ancs plan ([], fr, m) lim skip st := ⟨hT, hrec, hmono, R, tr, rfl, hls, hlim, hf.nodup, fun j u hj => by
      obtain ⟨_, v, hv, _⟩ := hf.vv j u hj
      exact (List.getElem?_eq_some_iff.1 hv).1⟩
    have h0 : st 0 = ([], fr, m) := tr.zero
    have hn0 : nxAt st 0 = m.next := by unfold nxAt; rw [h0]
    have S : DS l ancs lim (fun _ => false) 0 := ⟨fun i o _ _ => by simp, by simp, Nat.zero_le _, fun _ _ h => by simp at h, fun _ h => by simp at h, fun _ => rfl⟩
    have W : DW T l rd skip st b cs ρ w1 (fun _ => false) 0 ρ w1 d := by
      refine ⟨by rw [hn0, hbel, h0]; exact hM1, fun o g v h => .inl (by rw [hn0]; exact H.dom _ _ _ h), fun _ h => by simp at h, hM1.inb, H.sep, by rw [hn0, hbel, h0]; exact hf.defers, by rw [hn0, hbel, h0]; exact hf.pan, by rw [hn0, hbel]; exact hf.round, .refl _ _⟩
    have Ht : DT vt nt ops ([], fr, m) st (fun _ => false) 0 ρ t := by
      refine ⟨fun _ _ _ h => by simp at h, fun j u hj _ => ?_, fun j u hj => (hf.vv j u hj).1, hf.ntle⟩
      obtain ⟨_, v, hv, hr⟩ := hf.vv j u hj
      rw [hn0, hbel, nth_eq, hv]
      exact hr
    have hl := sched C (b := b) (cs := cs) (ρ0 := ρ) (w0 := w1) (fun o g v h => by rw [hn0]; exact H.dom _ _ _ h) E k ops.size (w.tape w.drawn (.order b.fn id)) (Array.replicate ops.size false) (by simp) (fun i => by
      rw [Array.getD_eq_getD_getElem?, Array.getElem?_replicate]
      split <;> rfl) (Nat.le_trans (List.length_filter_le _ _) (by simp)) S W Ht
    have hd0 : (st 0).2.1.did = fr.did := by rw [h0]
    rw [hd0] at hl
    exact Lands.from (.one hstep) hA1 hl
  rcases hend with ⟨rfl, hg, rfl, rfl, sl, hN, hc⟩ | ⟨v, p, o, fr1, ho, hw, hop, rfl, rfl, hg, sl, hN, hc, hid⟩
  · exact main (trace_normal hg hN hc) (Nat.le_refl _) (fun h => absurd h (Nat.lt_irrefl _)) (.normal rfl)
  · obtain ⟨tr, hst⟩ := trace_panic ho hg hN hc hid
    refine main tr (Nat.le_of_lt (List.getElem?_eq_some_iff.1 ho).1) (fun _ => by simp [skipP]) ?_
    rw [← hst] at hw hop
    exact .panic ho hw hop
end
end AM

/- Loops over functions. -/
namespace AM
open Go
section
variable {P : Program} {T : Tys}
theorem comp_range {vt : List Tmp} {nt : Nat} {f : Operand} {params : Array Tmp} {assign body : Code} {x : AX} {ps : List Nat} (h1 : compX vt [] f = some x) (h2 : params.toList.mapM (idxIn · vt) = some ps) :
    comp T vt nt (.rangeFunc f params assign body) = .range x ps (comp T vt nt assign) (comp T vt nt body) := by simp [comp, h1, h2]
/-- The loop begins. -/
theorem st_range {b : Frame} {t : Array Value} {d : List Deferred} {k : List Item} {cs : List Frame} {w w1 : World} {f : Operand} {params : Array Tmp} {assign body : Code} {l : Nat} {mark : List Deferred} {fid : FuncId} {cap : Array Value}
    (he : (Instr.enterLoop b.fn t params assign body b.roundOf).run P w = .ok (l, mark) w1) (hf : evalT t f = .func (.func fid) #[] cap) (hr : Real P fid) :
    step P (lone (fat b t d (.code (.rangeFunc f params assign body) :: k)) cs w) =
      .next (lone (Frame.enter P fid (#[.func (.yield l) #[] #[]] ++ cap) .normal) (fat b t (mark ++ d) (.inRangeFunc l :: k) :: cs) w1) := by
  obtain ⟨fn, h1, h2, h3⟩ := hr
  have hev : (fat b t (mark ++ d) (.inRangeFunc l :: k)).eval f = .func (.func fid) #[] cap := by rw [eval_evalT]; exact hf
  have hres : ((do let d ← resolve (fat b t (mark ++ d) (.inRangeFunc l :: k)).eval { callee := .value f, args := #[.const (.func (.yield l) #[] #[])], argTypes := #[] } 0; invoke d.target d.args) : Sem Next).run P w1 = .ok (.enter fid (#[.func (.yield l) #[] #[]] ++ cap)) w1 := by
    simp only [resolve, hev, Deferred.ofValue, Sem.run_bind, Sem.run_pure, Result.andThen_ok, invoke, callFunc, run_program, h1, h2, h3, Bool.false_eq_true, if_false, Array.empty_append]
    simp [Frame.eval]
  refine step_lone_go ?_
  simp only [fat] at hres
  simp [stepG, stepG.exec, fat, he, stepG.apply, hres]
theorem st_endRange {b : Frame} {t : Array Value} {d : List Deferred} {k : List Item} {cs : List Frame} {w : World} {l : Nat} {L : Loop} (h : w.heap[l]? = some (.loop L)) (hs : L.state ≠ .busy) :
    step P (lone (fat b t d (.endRangeFunc l :: k)) cs w) = .next (lone (fat b t d ((L.pending.map Item.code).toList ++ k)) cs (World.obj w l (.loop { L with state := .exhausted }))) := by
  have h1 : (Instr.getLoop l).run P w = .ok L w := by simp only [Instr.getLoop, Sem.run_bind, run_getObj h (by simp), Result.andThen_ok, Sem.run_pure]
  have hs' : (L.state == .busy) = false := by cases hh : L.state <;> first | rfl | exact absurd hh hs
  have h2 : (Instr.endLoop l).run P w = .ok L.pending (World.obj w l (.loop { L with state := .exhausted })) := by
    simp only [Instr.endLoop, Sem.run_bind, h1, Result.andThen_ok, hs', Bool.false_eq_true, if_false, run_setObj h (by simp), Sem.run_pure]
  exact step_lone_go (by simp [stepG, stepG.exec, fat, h2])
theorem run_newObj {w : World} (y : Go.Obj) : (newObj y).run P w = .ok w.heap.size (World.push w y) := rfl
/-- A loop is made. -/
theorem push_loop {ρ : Gh} {m : Mem} {w : World} (H : MR T ρ m w) {vt : List Tmp} {nt : Nat} {vars : List AV} {t : Array Value} {params : Array Tmp} {ps : List Nat} {assign body : Code} {dfr : Nat} {ld : Loc} (fn : FuncId) (hn : vt.Nodup) (hv : VV ρ vt vars t) (hnt : nt ≤ t.size)
    (hps : params.toList.mapM (idxIn · vt) = some ps) (hd : ρ dfr 0 = some ld) :
    let L : Loop := { state := .ready, pending := none, fn, tmps := t, params, assign, body, defers := ld.block }
    let l : Loc := { block := w.heap.size, base := 0, n := 0, total := 0, es := 1, rw := true }
    MR T (ρ.add m.next 0 l) (m.push (.loop .ready none vars ps (comp T vt nt assign) (comp T vt nt body) dfr)) (World.push w (.loop L)) ∧ Adv ρ w (ρ.add m.next 0 l) (World.push w (.loop L)) := by
  intro L l
  have hnone : ρ m.next 0 = none := by
    cases h : ρ m.next 0 with
    | none => rfl
    | some l => exact absurd (H.dom _ _ _ h) (Nat.lt_irrefl _)
  have hle := Gh.le_add (ρ := ρ) l hnone
  exact ⟨(H.push (.loop .ready none vars ps (comp T vt nt assign) (comp T vt nt body) dfr) (.loop L) l rfl ⟨l, L, Gh.add_same _ _ _ _, rfl, push_new _ _, rfl, trivial, ⟨vt, nt, hn, hv.mono hle, hps, rfl, rfl, hnt⟩, ⟨ld, hle _ _ _ hd, rfl⟩⟩).1, .push H _ l rfl rfl⟩
theorem push_dfr {ρ : Gh} {m : Mem} {w : World} (H : MR T ρ m w) :
    let l : Loc := { block := w.heap.size, base := 0, n := 0, total := 0, es := 1, rw := true }
    MR T (ρ.add m.next 0 l) (m.push (.dfr true)) (World.push w (.deferred (some []))) ∧ Adv ρ w (ρ.add m.next 0 l) (World.push w (.deferred (some []))) := by
  intro l
  exact ⟨(H.push (.dfr true) (.deferred (some [])) l rfl ⟨l, Gh.add_same _ _ _ _, rfl, push_new _ _⟩).1, .push H _ l rfl rfl⟩
theorem DRs.append {ρ : Gh} : ∀ {a : List ADef} {a' : List Deferred} {c : List ADef} {c' : List Deferred}, DRs ρ a a' → DRs ρ c c' → DRs ρ (a ++ c) (a' ++ c')
  | _, _, _, _, .nil, k => k
  | _, _, _, _, .cons x t, k => .cons x (DRs.append t k)
theorem range_ok (_hT : TysOK P T) {rec : Rec} (hrec : RecOK P T rec) : RangeOK P T rec := by
  intro vt nt f params assign body fr rd m e fr' m' h ρ w b cs k t d H hf
  cases hx : compX vt [] f with
  | none => simp [comp, hx, codeRun] at h
  | some x =>
    cases hp : params.toList.mapM (idxIn · vt) with
    | none => simp [comp, hx, hp, codeRun] at h
    | some ps =>
      rw [comp_range hx hp] at h
      simp only [codeRun] at h
      have hv := ev_ok hf.sr hx
      split at h
      case h_2 => simp at h
      rename_i fid captured hev
      rw [hev] at hv
      obtain ⟨cap', hfe, hcap⟩ := hv.fn_inv
      split at h
      · simp at h
      rename_i dfr mark mm hstage
      -- the loop's objects
      have hst : ∃ ρ1 w1 lb mark', (Instr.enterLoop b.fn t params assign body b.roundOf).run P w = .ok (lb, mark') w1 ∧ MR T ρ1 (mm.push (.loop .ready none fr.vars ps (comp T vt nt assign) (comp T vt nt body) dfr)) w1 ∧
          Adv ρ w ρ1 w1 ∧ (∃ ll, ρ1 mm.next 0 = some ll ∧ ll.block = lb) ∧ DRs ρ1 mark mark' := by
        cases rd with
        | none =>
          have hro : b.roundOf = none := by
            cases hb : b.roundOf with
            | none => rfl
            | some r => have := hf.round; rw [hb] at this; exact this.elim
          simp only [Option.some.injEq, Prod.mk.injEq] at hstage
          obtain ⟨rfl, rfl, rfl⟩ := hstage
          obtain ⟨hM0, hA0⟩ := push_dfr H
          obtain ⟨hM1, hA1⟩ := push_loop hM0 (params := params) (assign := assign) (body := body) (dfr := m.next) b.fn hf.nodup (hf.vv.mono hA0.le) hf.ntle hp (Gh.add_same _ _ _ _)
          refine ⟨_, _, _, [{ target := .collected w.heap.size, args := #[] }], ?_, hM1, hA0.trans hA1, ⟨_, Gh.add_same _ _ _ _, rfl⟩, .cons ⟨_, hA1.le _ _ _ (Gh.add_same _ _ _ _), rfl⟩ .nil⟩
          · rw [hro]
            simp only [Instr.enterLoop, Sem.run_bind, run_newObj, Result.andThen_ok, Sem.run_pure]
        | some lo =>
          cases hb : b.roundOf with
          | none => have := hf.round; rw [hb] at this; exact this.elim
          | some r =>
            obtain ⟨l0, hl0, rfl⟩ : ∃ l, ρ lo 0 = some l ∧ l.block = r := by have := hf.round; rw [hb] at this; exact this
            simp only at hstage
            split at hstage
            case h_2 => simp at hstage
            rename_i st p vs2 ps2 as2 bd2 d2 hget
            simp only [Option.some.injEq, Prod.mk.injEq] at hstage
            obtain ⟨rfl, rfl, rfl⟩ := hstage
            obtain ⟨l1, L, hl1, hrw, hheap, hL⟩ := H.obj lo _ hget
            obtain rfl : l0 = l1 := by rw [hl0] at hl1; simpa using hl1
            obtain ⟨ld, hld, hLd⟩ := hL.defers
            obtain ⟨hM1, hA1⟩ := push_loop H (params := params) (assign := assign) (body := body) (dfr := d2) b.fn hf.nodup hf.vv hf.ntle hp hld
            have hgl : (Instr.getLoop l0.block).run P w = .ok L w := by simp only [Instr.getLoop, Sem.run_bind, run_getObj hheap (by simp), Result.andThen_ok, Sem.run_pure]
            refine ⟨_, _, _, [], ?_, hM1, hA1, ⟨_, Gh.add_same _ _ _ _, rfl⟩, .nil⟩
            simp only [Instr.enterLoop, Sem.run_bind, hgl, run_newObj, Result.andThen_ok, Sem.run_pure, hLd]
      obtain ⟨ρ1, w1, lb, mark', henter, hM1, hA1, ⟨ll, hll, rfl⟩, hmark⟩ := hst
      have hargs : VRs ρ1 (.yld mm.next :: captured) (#[Value.func (.yield ll.block) #[] #[]] ++ cap').toList := by
        simpa using VRs.cons (VR.yld hll) (hcap.mono hA1.le)
      have hF1 : DRs ρ1 (mark ++ fr.defers) (mark' ++ d) := hmark.append (hf.defers.mono hA1.le)
      split at h
      · rename_i v did m2 hcall
        obtain ⟨hreal, hc⟩ := hrec.call hcall
        obtain ⟨ρ2, w2, fr2, hM2, hA2, hfn, hkind, hdef, hsteps, hmode, fn, v', hfn2, hres, hv'⟩ := hc hM1 hargs (PanR.normal (fat b t (mark' ++ d) (.inRangeFunc ll.block :: k) :: calOf b.kind cs fr.did) false)
        rw [calOf_normal] at hsteps
        have hback := step_leave_returned (P := P) (c := fat b t (mark' ++ d) (.inRangeFunc ll.block :: k)) (cs := calOf b.kind cs fr.did) (fr := fr2) (w := w2) (v := v') ⟨hmode, hdef, hkind, fn, hfn ▸ hfn2, hres⟩
        have hfin : (fat b t (mark' ++ d) (.inRangeFunc ll.block :: k)).finish v' = fat b t (mark' ++ d) (.endRangeFunc ll.block :: k) := rfl
        rw [hfin] at hback
        have hpre := Steps.head (st_range (d := d) (k := k) (cs := calOf b.kind cs fr.did) henter hfe hreal) (hsteps.trans (.one hback))
        have hll2 := hA2.le _ _ _ hll
        have hAA := hA1.trans hA2
        split at h
        · simp at h
        · rename_i st p vs3 ps3 as3 bd3 d3 hnb hget
          simp only [Option.some.injEq, Prod.mk.injEq] at h
          obtain ⟨rfl, rfl, rfl⟩ := h
          obtain ⟨l3, L3, hl3, hrw3, hheap3, hL3⟩ := hM2.obj _ _ hget
          obtain rfl : ll = l3 := by rw [hll2] at hl3; simpa using hl3
          have hbl : ll.block < w2.heap.size := lt_of_some hheap3
          have hnbusy : L3.state ≠ .busy := by
            intro hb
            have := hL3.st
            rw [hb] at this
            exact hnb this.symm
          have hend := st_endRange (P := P) (b := b) (t := t) (d := mark' ++ d) (k := k) (cs := calOf b.kind cs fr.did) hheap3 hnbusy
          obtain ⟨hM3, hK3⟩ := hM2.setObj hl3 hrw3 (.loop .exhausted p vs3 ps3 as3 bd3 d3) (.loop { L3 with state := .exhausted }) ⟨ll, _, hl3, hrw3, heap_obj hbl _, ⟨rfl, hL3.pending, hL3.code, hL3.defers⟩⟩
          have hFr : FrR ρ2 vt nt rd { fr with defers := mark ++ fr.defers } b cs t (mark' ++ d) := ⟨hf.nodup, hf.ntle, hf.vv.mono hAA.le, hF1.mono hA2.le, hf.pan.mono hAA.le, hf.round.mono hAA.le⟩
          have hA3 : Adv ρ w ρ2 (World.obj w2 ll.block (.loop { L3 with state := .exhausted })) := hAA.trans ⟨Gh.le.refl _, fun _ _ _ h => .inl h, hK3⟩
          have hJ := hL3.pending
          refine ⟨ρ2, _, t, mark' ++ d, hM3, hA3, ?_⟩
          cases p with
          | none =>
            cases hpd : L3.pending with
            | none => rw [hpd] at hend; exact ⟨hFr, hpre.trans (.one hend)⟩
            | some c => rw [hpd] at hJ; exact absurd hJ (by simp [JR])
          | some j =>
            cases j with
            | ret =>
              cases hpd : L3.pending with
              | none => rw [hpd] at hJ; exact absurd hJ (by simp [JR])
              | some c =>
                rw [hpd] at hJ hend
                cases c <;> simp only [JR] at hJ
                exact ⟨hFr, k, hpre.trans (.one hend)⟩
            | exit id =>
              cases hpd : L3.pending with
              | none => rw [hpd] at hJ; exact absurd hJ (by simp [JR])
              | some c =>
                rw [hpd] at hJ hend
                cases c <;> simp only [JR] at hJ
                subst hJ
                exact ⟨hFr, k, rfl, hpre.trans (.one hend)⟩
        · simp at h
      · rename_i v did m2 hcall
        obtain ⟨hreal, hc⟩ := hrec.call hcall
        obtain ⟨ρ2, w2, fr2, hM2, hA2, hfn, hkind, hdef, hsteps, v', hmode, hv'⟩ := hc hM1 hargs (PanR.normal (fat b t (mark' ++ d) (.inRangeFunc ll.block :: k) :: calOf b.kind cs fr.did) false)
        rw [calOf_normal] at hsteps
        simp only [Option.some.injEq, Prod.mk.injEq] at h
        obtain ⟨rfl, rfl, rfl⟩ := h
        obtain ⟨fn, hfn2, _, _⟩ := hreal
        have hback := step_leave_panicked (P := P) (c := fat b t (mark' ++ d) (.inRangeFunc ll.block :: k)) (cs := calOf b.kind cs fr.did) (fr := fr2) (w := w2) ⟨hmode, hdef, fn, hfn ▸ hfn2⟩
        have hpre := Steps.head (st_range (d := d) (k := k) (cs := calOf b.kind cs fr.did) henter hfe ⟨fn, hfn2, ‹_›, ‹_›⟩) (hsteps.trans (.one hback))
        have hAA := hA1.trans hA2
        exact ⟨ρ2, w2, t, mark' ++ d, hM2, hAA, ⟨hf.ntle, (hf.vv.mono hAA.le).weak, hF1.mono hA2.le, hf.pan.mono hAA.le, hf.round.mono hAA.le⟩, v', .inRangeFunc ll.block :: k, trivial, hv', hpre⟩
      · simp at h
end
end AM

/- Deferred calls; calls. -/
namespace AM
open Go
section
variable {P : Program} {T : Tys}
/-- How a frame stands whose deferred calls are made. -/
def modeOf : Option Value → FrameMode
  | none => .returning
  | some v => .panicking (panEntry v)
def PanV (ρ : Gh) : Option AV → Option Value → Prop
  | none, none => True
  | some v, some v' => VR ρ v v'
  | _, _ => False
theorem run_takeDeferred {w : World} {r : Nat} (h : w.heap[r]? = some (.deferred (some []))) : (Instr.takeDeferred r).run P w = .ok [] (World.obj w r (.deferred none)) := by
  simp only [Instr.takeDeferred, Sem.run_bind, run_getObj h (by simp), Result.andThen_ok, run_setObj h (by simp), Sem.run_pure]
theorem st_coll {fr : Frame} {cs : List Frame} {w : World} {d : Deferred} {ds : List Deferred} {r : Nat} (hd : fr.defers = d :: ds) (ht : d.target = .collected r) (hm : fr.mode = .returning ∨ ∃ c, fr.mode = .panicking c) (h : w.heap[r]? = some (.deferred (some []))) :
    step P (lone fr cs w) = .next (lone { fr with defers := ds } cs (World.obj w r (.deferred none))) := by
  obtain ⟨tg, as⟩ := d
  simp only at ht
  subst ht
  rcases hm with hm | ⟨c, hm⟩ <;> exact step_lone_go (by simp [stepG, unwind, hm, hd, run_takeDeferred h])
theorem st_deferred {fr : Frame} {cs : List Frame} {w : World} {d : Deferred} {ds : List Deferred} {fid : FuncId} {cap : Array Value} (hd : fr.defers = d :: ds) (ht : d.target = .fn (.func fid) cap) (hm : fr.mode = .returning ∨ ∃ c, fr.mode = .panicking c) (hr : Real P fid) :
    step P (lone fr cs w) = .next (lone (Frame.enter P fid (d.args ++ cap) .deferred) ({ fr with defers := ds } :: cs) w) := by
  obtain ⟨fn, h1, h2, h3⟩ := hr
  obtain ⟨tg, as⟩ := d
  simp only at ht
  subst ht
  have hrun : (invoke (.fn (.func fid) cap) as).run P w = .ok (.enter fid (as ++ cap)) w := by
    simp only [invoke, callFunc, Sem.run_bind, run_program, Result.andThen_ok, h1, h2, h3, Bool.false_eq_true, if_false, Sem.run_pure]
  rcases hm with hm | ⟨c, hm⟩ <;> exact step_lone_go (by simp [stepG, unwind, callDeferred, hm, hd, hrun])
theorem st_def_plain {fr c : Frame} {cs : List Frame} {w : World} {fn : Func} {v : Value} (hm : fr.mode = .returning) (hd : fr.defers = []) (hk : fr.kind = .deferred) (hf : P.funcs[fr.fn]? = some fn) (hr : (results fn fr.tmps).run P w = .ok v w)
    (hc : c.mode = .returning ∨ ∃ x, c.mode = .panicking (panEntry x)) : step P (lone fr (c :: cs) w) = .next (lone c cs w) := by
  rcases hc with hc | ⟨x, hc⟩
  · exact step_lone_go (by simp [stepG, unwind, doReturn, hm, hd, hk, hf, hr, hc])
  · exact step_lone_go (by simp [stepG, unwind, doReturn, hm, hd, hk, hf, hr, hc, panEntry])
theorem st_def_rec {fr c : Frame} {cs : List Frame} {w : World} {fn : Func} {v x : Value} (hm : fr.mode = .returning) (hd : fr.defers = []) (hk : fr.kind = .deferred) (hf : P.funcs[fr.fn]? = some fn) (hr : (results fn fr.tmps).run P w = .ok v w)
    (hc : c.mode = .panicking [{ v := x, recovered := true }]) : step P (lone fr (c :: cs) w) = .next (lone { c with mode := .returning } cs w) :=
  step_lone_go (by simp [stepG, unwind, doReturn, hm, hd, hk, hf, hr, hc])
theorem unwind_sound {rec : Rec} (hrec : RecOK P T rec) : ∀ (ads : List ADef) {pan pan' : Option AV} {m m' : Mem}, unwindA rec ads pan m = some (pan', m') →
    ∀ {ρ : Gh} {w : World} {fr : Frame} {cs : List Frame} {pv : Option Value}, MR T ρ m w → DRs ρ ads fr.defers → PanV ρ pan pv → fr.mode = modeOf pv →
      ∃ ρ' w' pv', MR T ρ' m' w' ∧ Adv ρ w ρ' w' ∧ PanV ρ' pan' pv' ∧ Steps P (lone fr cs w) (lone { fr with defers := [], mode := modeOf pv' } cs w')
  | [], pan, pan', m, m', h, ρ, w, fr, cs, pv, H, hd, hp, hm => by
    simp only [unwindA, Option.some.injEq, Prod.mk.injEq] at h
    obtain ⟨rfl, rfl⟩ := h
    have hde : fr.defers = [] := by
      generalize fr.defers = x at hd
      cases hd; rfl
    refine ⟨ρ, w, pv, H, .refl _ _, hp, ?_⟩
    rw [← hm, ← hde]
    exact .refl _ _
  | .coll r :: ads, pan, pan', m, m', h, ρ, w, fr, cs, pv, H, hd, hp, hm => by
    simp only [unwindA] at h
    split at h
    case h_2 => simp at h
    rename_i hget
    obtain ⟨l, hl, hrw, hheap⟩ := H.obj _ _ hget
    obtain ⟨d, ds, hde, h1, h2⟩ : ∃ d ds, fr.defers = d :: ds ∧ DR ρ (.coll r) d ∧ DRs ρ ads ds := by
      generalize fr.defers = x at hd
      cases hd with
      | cons a b => exact ⟨_, _, rfl, a, b⟩
    obtain ⟨l2, hl2, htg⟩ := h1
    obtain rfl : l = l2 := by rw [hl] at hl2; simpa using hl2
    have hst := st_coll (P := P) (cs := cs) hde htg (by rw [hm]; cases pv <;> simp [modeOf]) hheap
    obtain ⟨hM, hK⟩ := H.setObj hl hrw (.dfr false) (.deferred none) ⟨l, hl, hrw, heap_obj (lt_of_some hheap) _⟩
    obtain ⟨ρ', w', pv', h5, h6, h7, h8⟩ := unwind_sound hrec ads h (fr := { fr with defers := ds }) (cs := cs) hM h2 hp hm
    exact ⟨ρ', w', pv', h5, Adv.trans ⟨Gh.le.refl _, fun _ _ _ h => .inl h, hK⟩ h6, h7, .head hst h8⟩
  | .fn f as :: ads, pan, pan', m, m', h, ρ, w, fr, cs, pv, H, hd, hp, hm => by
    simp only [unwindA] at h
    split at h
    case h_2 => simp at h
    rename_i v did m1 hcall
    obtain ⟨d, ds, hde, h1, h2⟩ : ∃ d ds, fr.defers = d :: ds ∧ DR ρ (.fn f as) d ∧ DRs ρ ads ds := by
      generalize fr.defers = x at hd
      cases hd with
      | cons a b => exact ⟨_, _, rfl, a, b⟩
    obtain ⟨cap, htg, hargs⟩ := h1
    obtain ⟨hreal, hc⟩ := hrec.call hcall
    have hst := st_deferred (P := P) (cs := cs) (w := w) hde htg (by rw [hm]; cases pv <;> simp [modeOf]) hreal
    have hpan : PanR ρ .deferred ({ fr with defers := ds } :: cs) pan false := by
      refine ⟨fun v hv => ?_, fun hv f hf => ?_⟩
      · subst hv
        cases pv with
        | none => exact hp.elim
        | some v' => exact ⟨rfl, rfl, _, _, v', rfl, hm, hp⟩
      · subst hv
        cases pv with
        | some v' => exact hp.elim
        | none =>
          rw [calOf_false]
          unfold tryRecover
          rw [hf]
          simp only [hm, modeOf]
    obtain ⟨ρ1, w1, fr2, hM, hA, hfn, hkind, hdef, hsteps, hmode, fn, v', hfn2, hres, _⟩ := hc H hargs hpan
    have hfn3 : P.funcs[fr2.fn]? = some fn := hfn ▸ hfn2
    have key : ∃ pv1, PanV ρ1 (bif did then none else pan) pv1 ∧ Steps P (lone fr cs w) (lone { fr with defers := ds, mode := modeOf pv1 } cs w1) := by
      cases did with
      | false =>
        refine ⟨pv, ?_, .head hst (hsteps.trans (.one ?_))⟩
        · cases pan <;> cases pv <;> first | exact hp.elim | trivial | exact VR.mono hA.le hp
        · rw [calOf_false, ← hm]
          exact st_def_plain hmode hdef hkind hfn3 hres (by rw [show ({ fr with defers := ds } : Frame).mode = fr.mode from rfl, hm]; cases pv with | none => exact .inl rfl | some x => exact .inr ⟨x, rfl⟩)
      | true =>
        refine ⟨none, trivial, .head hst (hsteps.trans (.one ?_))⟩
        cases pv with
        | none =>
          have : calOf .deferred ({ fr with defers := ds } :: cs) true = { fr with defers := ds, mode := modeOf none } :: cs := by
            simp [calOf, recd, hm, modeOf]
          rw [this]
          exact st_def_plain hmode hdef hkind hfn3 hres (.inl rfl)
        | some x =>
          have : calOf .deferred ({ fr with defers := ds } :: cs) true = { fr with defers := ds, mode := .panicking [{ v := x, recovered := true }] } :: cs := by
            simp [calOf, recd, hm, modeOf, panEntry]
          rw [this]
          exact st_def_rec hmode hdef hkind hfn3 hres rfl
    obtain ⟨pv1, hp1, hs1⟩ := key
    obtain ⟨ρ', w', pv', h5, h6, h7, h8⟩ := unwind_sound hrec ads h (fr := { fr with defers := ds, mode := modeOf pv1 }) (cs := cs) hM (h2.mono hA.le) hp1 rfl
    exact ⟨ρ', w', pv', h5, hA.trans h6, h7, hs1.trans h8⟩
end
end AM

/- Results; calls. -/
namespace AM
open Go
section
variable {P : Program} {T : Tys} {ρ : Gh}
/-- What is asked of the table of functions. -/
structure FnOK (P : Program) (T : Tys) (f : FuncId) (a : AFn) : Prop where
  go : ∃ fn code, P.funcs[f]? = some fn ∧ fn.body = some code ∧ (fn.name == "runtime.NumGoroutine") = false ∧ a.code = comp T a.vt fn.ntmps code ∧ a.vt.Nodup ∧ (∀ x ∈ a.vt, x < fn.ntmps) ∧ compRes T a.vt fn.results.toList = some a.results
def FnsOK (P : Program) (T : Tys) (F : Trie AFn) : Prop := ∀ f a, F.get f = some a → FnOK P T f a
theorem pickVars_get (args : List AV) : ∀ (l : List Nat) (j t : Nat), l[j]? = some t → (pickVars args l)[j]? = some (nth args t)
  | [], j, t, h => by simp at h
  | x :: l, j, t, h => by
    cases j with
    | zero => simp only [List.getElem?_cons_zero, Option.some.injEq] at h; subst h; rfl
    | succ j => simpa [pickVars] using pickVars_get args l j t (by simpa using h)
/-- A call's variables. -/
theorem begin_vv {vt : List Nat} {n : Nat} {args : List AV} {args' : Array Value} (ha : VRs ρ args args'.toList) (hlt : ∀ x ∈ vt, x < n) : VV ρ vt (pickVars args vt) (args' ++ Array.replicate (n - args'.size) undef) := by
  intro j (t : Nat) hj
  have htn : t < n := hlt t (List.mem_of_getElem? hj)
  refine ⟨(by simp only [Array.size_append, Array.size_replicate]; omega : t < (args' ++ Array.replicate (n - args'.size) undef).size), nth args t, pickVars_get args vt j t hj, ?_⟩
  have hl := ha.length
  simp only [Array.length_toList] at hl
  by_cases ht : t < args'.size
  · have hat : args[t]? = some (nth args t) := by rw [nth_eq, List.getElem?_eq_getElem (by omega)]; rfl
    obtain ⟨v', h1, h2⟩ := ha.get t _ hat
    have : (args' ++ Array.replicate (n - args'.size) undef).getD t undef = v' := by
      rw [Array.getD_eq_getD_getElem?, Array.getElem?_append_left ht, ← Array.getElem?_toList, h1]; rfl
    rw [this]; exact h2
  · have hn : nth args t = .und := by rw [nth_eq, List.getElem?_eq_none (by omega)]; rfl
    have : (args' ++ Array.replicate (n - args'.size) undef).getD t undef = undef := by
      rw [Array.getD_eq_getD_getElem?, Array.getElem?_append_right (by omega)]
      by_cases h2 : t - args'.size < n - args'.size
      · simp [h2]
      · simp [h2]
    rw [hn, this]; exact .und
/-- One result. -/
def resSem (t : Array Value) : ResultVar → Sem Value
  | .tmp x => pure (t.getD x undef)
  | .cell a ty => do loadVar ty (← asAddr (t.getD a undef))
theorem readRes_ok (hT : TysOK P T) {m : Mem} {w : World} (H : MR T ρ m w) {vt : List Tmp} {vars : List AV} {t : Array Value} {und : Bool} (hv : VW ρ vt vars t) (hu : und = true → VV ρ vt vars t) : ∀ (l : List ResultVar) {rs : List ARes} {vs : List AV}, compRes T vt l = some rs → readRes vars m und rs = some vs →
    ∃ vs', (l.mapM (resSem t)).run P w = .ok vs' w ∧ VRs ρ vs vs'
  | [], rs, vs, hc, h => by
    simp only [compRes, Option.some.injEq] at hc
    subst hc
    simp only [readRes, Option.some.injEq] at h
    subst h
    exact ⟨[], by simp, .nil⟩
  | .tmp x :: l, rs, vs, hc, h => by
    simp only [compRes] at hc
    split at hc <;> simp only [Option.some.injEq, reduceCtorEq] at hc
    rename_i j r hj hr
    subst hc
    simp only [readRes] at h
    split at h <;> simp only [Option.some.injEq, reduceCtorEq] at h
    rename_i v vs1 hv1 hvs1
    subst h
    obtain ⟨vs', h1, h2⟩ := readRes_ok hT H hv hu l hr hvs1
    obtain ⟨_, y, hy, hyr⟩ := hv j x (idxIn_some hj)
    have hn : nth vars j = y := by rw [nth_eq, hy]; rfl
    have hvr : VR ρ v (t.getD x undef) := by
      rw [hn] at hv1
      split at hv1
      · cases und with
        | false => simp at hv1
        | true =>
          simp only [cond_true, Option.some.injEq] at hv1
          subst hv1
          obtain ⟨_, z, hz, hzr⟩ := hu rfl j x (idxIn_some hj)
          rw [hy] at hz
          simp only [Option.some.injEq] at hz
          subst hz
          exact hzr
      · rename_i hne
        simp only [Option.some.injEq] at hv1
        subst hv1
        exact hyr.resolve_left hne
    refine ⟨t.getD x undef :: vs', ?_, .cons hvr h2⟩
    simp only [List.mapM_cons, resSem, Sem.run_bind, Sem.run_pure, Result.andThen_ok, h1]
  | .cell a ty :: l, rs, vs, hc, h => by
    simp only [compRes] at hc
    split at hc <;> try simp only [reduceCtorEq] at hc
    rename_i j tt r hj htt hr
    split at hc <;> simp only [Option.some.injEq, reduceCtorEq] at hc
    rename_i hne
    subst hc
    simp only [readRes] at h
    split at h <;> simp only [Option.some.injEq, reduceCtorEq] at h
    rename_i v vs1 hv1 hvs1
    subst h
    obtain ⟨vs', h1, h2⟩ := readRes_ok hT H hv hu l hr hvs1
    obtain ⟨_, y, hy, hyr⟩ := hv j a (idxIn_some hj)
    have hn : nth vars j = y := by rw [nth_eq, hy]; rfl
    rw [hn] at hv1
    have hyr' : VR ρ y (t.getD a undef) := hyr.resolve_left (by rintro rfl; simp [loadA, AV.und] at hv1)
    obtain ⟨ad, v', he, h3, h4⟩ := loadVar_ok (P := P) hT H htt hne hyr' hv1
    refine ⟨v' :: vs', ?_, .cons h4 h2⟩
    simp only [List.mapM_cons, resSem, he, asAddr, Sem.run_bind, Sem.run_pure, Result.andThen_ok, h1, h3]
end
end AM

/- Calls; the run, by its fuel. -/
namespace AM
open Go
section
variable {P : Program} {T : Tys}
theorem results_ok (fn : Func) {t : Array Value} {w : World} {vs' : List Value} (h : (fn.results.toList.mapM (resSem t)).run P w = .ok vs' w) :
    (results fn t).run P w = .ok (if h : vs'.toArray.size = 1 then vs'.toArray[0] else .tuple vs'.toArray) w := by
  unfold results
  have key : ∀ f : ResultVar → Sem Value, f = resSem t → (fn.results.mapM f).run P w = .ok vs'.toArray w := by
    rintro f rfl
    rw [Array.mapM_eq_mapM_toList, Sem.run_map, h]
    rfl
  simp only [Sem.run_bind]
  rw [key _ (by funext x; cases x <;> rfl)]
  rfl
theorem oneOrTup_ok {ρ : Gh} {vs : List AV} {vs' : List Value} (h : VRs ρ vs vs') : VR ρ (oneOrTup vs) (if h : vs'.toArray.size = 1 then vs'.toArray[0] else .tuple vs'.toArray) := by
  cases h with
  | nil => exact .tup .nil
  | cons a b => cases b with
    | nil => exact a
    | cons b c =>
      rename_i v1 v1' v2 v2' l l'
      have hn : ¬ (v1' :: v2' :: l').toArray.size = 1 := by simp
      rw [dif_neg hn]
      exact .tup (.cons a (.cons b c))
end
end AM

/- Calls. -/
namespace AM
open Go
section
variable {P : Program} {T : Tys}
theorem call_sound (hT : TysOK P T) {E : Env} (hE : E.tys = T) (hF : FnsOK P T E.fns) {rec : Rec} (hrec : RecOK P T rec) (hdraw : DrawOK P T rec) {f : FuncId} {args : List AV} {pan : Option AV} {m : Mem} {o : Out} {did : Bool} {m' : Mem}
    (h : stepA E rec (.call f args pan) m = some (.out o did, m')) :
    Real P f ∧ ∀ {ρ : Gh} {w : World} {kind : CallKind} {cs : List Frame} {args' : Array Value}, MR T ρ m w → VRs ρ args args'.toList → PanR ρ kind cs pan false →
      CallR P T ρ w f kind cs (lone (Frame.enter P f args' kind) cs w) o did m' := by
  subst hE
  simp only [stepA] at h
  split at h
  · simp at h
  rename_i a hget
  obtain ⟨fn, code, h1, h2, h3, h4, h5, h6, h7⟩ := (hF f a hget).go
  refine ⟨⟨fn, h1, h3, by rw [h2]; rfl⟩, ?_⟩
  intro ρ w kind cs args' H ha hpan
  have hfr : FrR ρ a.vt fn.ntmps none { vars := pickVars args a.vt, defers := [], pan, did := false } { (default : Frame) with fn := f, kind } cs (args' ++ Array.replicate (fn.ntmps - args'.size) undef) [] :=
    ⟨h5, by simp; omega, begin_vv ha h6, .nil, hpan, trivial⟩
  have henter : Frame.enter P f args' kind = fat { (default : Frame) with fn := f, kind } (args' ++ Array.replicate (fn.ntmps - args'.size) undef) [] [.code code] := by
    simp [Frame.enter, fat, h1, h2]
    rfl
  rw [h4] at h
  -- from the end of the code on
  have tail : ∀ {ρ1 : Gh} {w1 : World} {t1 : Array Value} {d1 : List Deferred} {fr1 : Fr} {m1 m2 : Mem} {pan1 pan2 : Option AV} {pv : Option Value} {todo : List Item}, MR E.tys ρ1 m1 w1 → Adv ρ w ρ1 w1 → DRs ρ1 fr1.defers d1 → PanV ρ1 pan1 pv → unwindA rec fr1.defers pan1 m1 = some (pan2, m2) →
      Steps P (lone (Frame.enter P f args' kind) cs w) (lone { fat { (default : Frame) with fn := f, kind } t1 d1 todo with mode := modeOf pv } (calOf kind cs fr1.did) w1) →
      ∃ ρ2 w2 pv2, MR E.tys ρ2 m2 w2 ∧ Adv ρ w ρ2 w2 ∧ ρ1.le ρ2 ∧ PanV ρ2 pan2 pv2 ∧ Steps P (lone (Frame.enter P f args' kind) cs w) (lone { fat { (default : Frame) with fn := f, kind } t1 [] todo with mode := modeOf pv2 } (calOf kind cs fr1.did) w2) := by
    intro ρ1 w1 t1 d1 fr1 m1 m2 pan1 pan2 pv todo hM hA hd hp hu hs
    obtain ⟨ρ2, w2, pv2, g1, g2, g3, g4⟩ := unwind_sound hrec fr1.defers hu (fr := { fat { (default : Frame) with fn := f, kind } t1 d1 todo with mode := modeOf pv }) (cs := calOf kind cs fr1.did) hM hd hp rfl
    exact ⟨ρ2, w2, pv2, g1, hA.trans g2, g2.le, g3, hs.trans g4⟩
  split at h
  · simp at h
  · -- a panic
    rename_i v fr1 m1 hcode
    obtain ⟨ρ1, w1, t1, d1, hM, hA, hFw, v', todo, hn, hv, hS⟩ := code_sound hT hrec hdraw (range_ok hT hrec) code hcode (k := []) H hfr
    rw [← henter] at hS
    split at h
    · rename_i m2 hu
      split at h <;> simp only [Option.some.injEq, Prod.mk.injEq, Res.out.injEq, reduceCtorEq] at h
      rename_i vs hres
      obtain ⟨⟨rfl, rfl⟩, rfl⟩ := h
      obtain ⟨ρ2, w2, pv2, g1, g2, gle, g3, g4⟩ := tail (pan1 := some v) (pv := some v') hM hA hFw.defers hv hu hS
      cases pv2 with
      | some _ => exact g3.elim
      | none =>
        obtain ⟨vs', r1, r2⟩ := readRes_ok hT g1 (hFw.vv.mono gle) (fun hx => by simp at hx) fn.results.toList h7 hres
        exact ⟨ρ2, w2, _, g1, g2, rfl, rfl, rfl, g4, rfl, fn, _, h1, results_ok fn r1, oneOrTup_ok r2⟩
    · rename_i v2 m2 hu
      simp only [Option.some.injEq, Prod.mk.injEq, Res.out.injEq] at h
      obtain ⟨⟨rfl, rfl⟩, rfl⟩ := h
      obtain ⟨ρ2, w2, pv2, g1, g2, gle, g3, g4⟩ := tail (pan1 := some v) (pv := some v') hM hA hFw.defers hv hu hS
      cases pv2 with
      | none => exact g3.elim
      | some x => exact ⟨ρ2, w2, _, g1, g2, rfl, rfl, rfl, g4, x, rfl, g3⟩
    · simp at h
  · rename_i e fr1 m1 hne1 hne2 hcode
    have hl := code_sound hT hrec hdraw (range_ok hT hrec) code hcode (k := []) H hfr
    have hret : ∃ ρ1 w1 t1 d1 todo, MR E.tys ρ1 m1 w1 ∧ Adv ρ w ρ1 w1 ∧ FrR ρ1 a.vt fn.ntmps none fr1 { (default : Frame) with fn := f, kind } cs t1 d1 ∧
        Steps P (lone (Frame.enter P f args' kind) cs w) (lone { fat { (default : Frame) with fn := f, kind } t1 d1 todo with mode := modeOf none } (calOf kind cs fr1.did) w1) := by
      rw [← henter] at hl
      obtain ⟨ρ1, w1, t1, d1, hM, hA, hx⟩ := hl
      cases e with
      | normal => exact ⟨ρ1, w1, t1, d1, [], hM, hA, hx.1, hx.2.trans (.one (st_end rfl))⟩
      | ret => obtain ⟨hF1, kk, hS⟩ := hx; exact ⟨ρ1, w1, t1, d1, _, hM, hA, hF1, hS.trans (.one (st_ret rfl))⟩
      | exit id => exact (hne1 _ rfl).elim
      | panic v => exact (hne2 _ rfl).elim
    obtain ⟨ρ1, w1, t1, d1, todo, hM, hA, hF1, hS⟩ := hret
    split at h
    · rename_i m2 hu
      split at h <;> simp only [Option.some.injEq, Prod.mk.injEq, Res.out.injEq, reduceCtorEq] at h
      rename_i vs hres
      obtain ⟨⟨rfl, rfl⟩, rfl⟩ := h
      obtain ⟨ρ2, w2, pv2, g1, g2, gle, g3, g4⟩ := tail (pan1 := none) (pv := none) hM hA hF1.defers trivial hu hS
      cases pv2 with
      | some _ => exact g3.elim
      | none =>
        obtain ⟨vs', r1, r2⟩ := readRes_ok hT g1 (hF1.vv.mono gle).weak (fun _ => hF1.vv.mono gle) fn.results.toList h7 hres
        exact ⟨ρ2, w2, _, g1, g2, rfl, rfl, rfl, g4, rfl, fn, _, h1, results_ok fn r1, oneOrTup_ok r2⟩
    · simp at h
  · simp at h
end
end AM

/- The run, by its fuel. -/
namespace AM
open Go
section
variable {P : Program}
theorem run_next {E : Env} (hT : TysOK P E.tys) (hF : FnsOK P E.tys E.fns) {n : Nat} (ih : RecOK P E.tys (run E n)) (hd : DrawOK P E.tys (run E n)) : RecOK P E.tys (run E (n + 1)) := by
    refine ⟨?_, ?_, ?_⟩
    · intro vt nt c fr rd m e fr' m' h ρ w b cs k t d H hf
      simp only [run, stepA] at h
      split at h <;> simp only [Option.some.injEq, Prod.mk.injEq, Res.fr.injEq, reduceCtorEq] at h
      rename_i e1 fr1 m1 h1
      obtain ⟨⟨rfl, rfl⟩, rfl⟩ := h
      exact code_sound hT ih hd (range_ok hT ih) c h1 H hf
    · intro vt nt c fr rd m e fr' m' h ρ w b cs k t d H hf
      simp only [run, stepA] at h
      split at h
      · rename_i fr1 m1 h1
        obtain ⟨ρ1, w1, t1, d1, hM, hA, hF1, hS⟩ := code_sound hT ih hd (range_ok hT ih) c h1 (k := .inLoop c :: k) H hf
        exact Lands.from (hS.trans (.one st_inLoop)) hA (ih.loop h hM hF1)
      · rename_i e1 fr1 m1 hne h1
        simp only [Option.some.injEq, Prod.mk.injEq, Res.fr.injEq] at h
        obtain ⟨⟨rfl, rfl⟩, rfl⟩ := h
        exact (code_sound hT ih hd (range_ok hT ih) c h1 (k := .inLoop c :: k) H hf).plain (fun _ => rfl) (fun hx => hne hx)
      · simp at h
    · intro f args pan m o did m' h
      exact call_sound hT rfl hF ih hd h
end
end AM

/- The run: memory grows; soundness without a premise on regions; a call from outside. -/
namespace AM
open Go

section
variable {T : Tys} {rec : Rec} (hr : RecMono rec) {rd : Option Nat}
include hr
theorem opsRun_next : ∀ {l : List AOper} {s : List AV} {fr fr' : Fr} {m m' : Mem} {e : Ex}, opsRun T rec rd l s fr m = some (e, fr', m') → m.next ≤ m'.next
  | [], s, fr, fr', m, m', e, h => by simp only [opsRun, Option.some.injEq, Prod.mk.injEq] at h; obtain ⟨_, _, rfl⟩ := h; exact Nat.le_refl _
  | o :: l, s, fr, fr', m, m', e, h => by
    simp only [opsRun, cond_eq_ite] at h
    split at h
    · split at h
      · rename_i h1; exact Nat.le_trans (opRun_next hr h1) (opsRun_next h)
      · rename_i h1
        simp only [Option.some.injEq, Prod.mk.injEq] at h
        obtain ⟨_, _, rfl⟩ := h
        exact opRun_next hr h1
      · simp at h
    · exact opsRun_next h
theorem drawRun_next {all : List AOper} {ancs : List Nat} {plan : Plan} {vs : List AV} : ∀ {l : List AOper} {n : Nat} {st : List (Nat × Mem)} {s : List AV} {fr fr' : Fr} {m m' : Mem} {e : Ex}, drawRun T rec rd all ancs plan vs n l st s fr m = some (e, fr', m') → m.next ≤ m'.next
  | [], n, st, s, fr, fr', m, m', e, h => by
    simp only [drawRun, cond_eq_ite] at h
    split at h <;> simp only [Option.some.injEq, Prod.mk.injEq, reduceCtorEq] at h
    obtain ⟨_, _, rfl⟩ := h; exact Nat.le_refl _
  | o :: l, n, st, s, fr, fr', m, m', e, h => by
    simp only [drawRun, cond_eq_ite] at h
    split at h
    · split at h
      · rename_i h1; exact Nat.le_trans (opRun_next hr h1) (drawRun_next h)
      · rename_i h1
        split at h <;> simp only [Option.some.injEq, Prod.mk.injEq, reduceCtorEq] at h
        obtain ⟨_, _, rfl⟩ := h
        exact opRun_next hr h1
      · simp at h
    · exact drawRun_next h
theorem codeRun_next : ∀ {c : ACode} {fr fr' : Fr} {m m' : Mem} {e : Ex}, codeRun T rec rd c fr m = some (e, fr', m') → m.next ≤ m'.next := by
  intro c
  induction c with
  | skip => intro fr fr' m m' e h; simp only [codeRun, Option.some.injEq, Prod.mk.injEq] at h; obtain ⟨_, _, rfl⟩ := h; exact Nat.le_refl _
  | exit id => intro fr fr' m m' e h; simp only [codeRun, Option.some.injEq, Prod.mk.injEq] at h; obtain ⟨_, _, rfl⟩ := h; exact Nat.le_refl _
  | ret => intro fr fr' m m' e h; simp only [codeRun, Option.some.injEq, Prod.mk.injEq] at h; obtain ⟨_, _, rfl⟩ := h; exact Nat.le_refl _
  | bad => intro fr fr' m m' e h; simp [codeRun] at h
  | reg ops => intro fr fr' m m' e h; exact opsRun_next hr h
  | draw ops ancs plan => intro fr fr' m m' e h; exact drawRun_next hr h
  | seq a b iha ihb =>
    intro fr fr' m m' e h
    simp only [codeRun] at h
    split at h
    · rename_i h1; exact Nat.le_trans (iha h1) (ihb h)
    · exact iha h
  | cond x a b iha ihb =>
    intro fr fr' m m' e h
    simp only [codeRun, cond_eq_ite] at h
    split at h
    · split at h
      · exact iha h
      · exact ihb h
    · simp at h
  | block id b ih =>
    intro fr fr' m m' e h
    simp only [codeRun] at h
    split at h
    · rename_i h1
      simp only [Option.some.injEq, Prod.mk.injEq] at h
      obtain ⟨_, _, rfl⟩ := h
      exact ih h1
    · exact ih h
  | loop b ih =>
    intro fr fr' m m' e h
    simp only [codeRun] at h
    split at h <;> simp only [Option.some.injEq, Prod.mk.injEq, reduceCtorEq] at h
    rename_i h1
    obtain ⟨_, _, rfl⟩ := h
    exact hr _ _ _ _ h1
  | range f params assign body iha ihb =>
    intro fr fr' m m' e h
    simp only [codeRun] at h
    split at h <;> try simp only [reduceCtorEq] at h
    split at h <;> try simp only [reduceCtorEq] at h
    rename_i d mark m1 hd
    have h0 : m.next ≤ m1.next := by
      cases rd with
      | none =>
        simp only [Option.some.injEq, Prod.mk.injEq] at hd
        obtain ⟨_, _, rfl⟩ := hd
        simp
      | some r =>
        simp only at hd
        split at hd <;> simp only [Option.some.injEq, Prod.mk.injEq, reduceCtorEq] at hd
        obtain ⟨_, _, rfl⟩ := hd
        exact Nat.le_refl _
    split at h
    · rename_i h1
      have h1 := hr _ _ _ _ h1
      simp only [Mem.next_push] at h1
      split at h <;> simp only [Option.some.injEq, Prod.mk.injEq, reduceCtorEq] at h
      obtain ⟨_, _, rfl⟩ := h
      simp only [Mem.next_set]
      omega
    · rename_i h1
      have h1 := hr _ _ _ _ h1
      simp only [Mem.next_push] at h1
      simp only [Option.some.injEq, Prod.mk.injEq] at h
      obtain ⟨_, _, rfl⟩ := h
      omega
    · simp at h
theorem unwindA_next : ∀ {l : List ADef} {p p' : Option AV} {m m' : Mem}, unwindA rec l p m = some (p', m') → m.next ≤ m'.next
  | [], p, p', m, m', h => by simp only [unwindA, Option.some.injEq, Prod.mk.injEq] at h; obtain ⟨_, rfl⟩ := h; exact Nat.le_refl _
  | .coll r :: l, p, p', m, m', h => by
    simp only [unwindA] at h
    split at h
    · have := unwindA_next h; simpa using this
    · simp at h
  | .fn f as :: l, p, p', m, m', h => by
    simp only [unwindA] at h
    split at h
    · rename_i h1; exact Nat.le_trans (hr _ _ _ _ h1) (unwindA_next h)
    · simp at h
end
theorem run_mono (E : Env) : ∀ n, RecMono (run E n)
  | 0 => fun r m res m' h => by simp [run] at h
  | n + 1 => fun r m res m' h => by
    have ih := run_mono E n
    cases r with
    | code c fr rd =>
      simp only [run, stepA] at h
      split at h <;> simp only [Option.some.injEq, Prod.mk.injEq, reduceCtorEq] at h
      rename_i h1
      obtain ⟨_, rfl⟩ := h
      exact codeRun_next ih h1
    | loop c fr rd =>
      simp only [run, stepA] at h
      split at h
      · rename_i h1; exact Nat.le_trans (codeRun_next ih h1) (ih _ _ _ _ h)
      · rename_i h1
        simp only [Option.some.injEq, Prod.mk.injEq] at h
        obtain ⟨_, rfl⟩ := h
        exact codeRun_next ih h1
      · simp at h
    | call f args pan =>
      simp only [run, stepA] at h
      split at h
      · simp at h
      split at h
      · simp at h
      · rename_i h1
        have h1 := codeRun_next ih h1
        split at h
        · rename_i h2
          have h2 := unwindA_next ih h2
          split at h <;> simp only [Option.some.injEq, Prod.mk.injEq, reduceCtorEq] at h
          obtain ⟨_, rfl⟩ := h
          omega
        · rename_i h2
          have h2 := unwindA_next ih h2
          simp only [Option.some.injEq, Prod.mk.injEq] at h
          obtain ⟨_, rfl⟩ := h
          omega
        · simp at h
      · rename_i h1
        have h1 := codeRun_next ih h1
        split at h
        · rename_i h2
          have h2 := unwindA_next ih h2
          split at h <;> simp only [Option.some.injEq, Prod.mk.injEq, reduceCtorEq] at h
          obtain ⟨_, rfl⟩ := h
          omega
        · simp at h
      · simp at h
theorem run_ok {P : Program} {E : Env} (hT : TysOK P E.tys) (hF : FnsOK P E.tys E.fns) (hm : P.follows .mixedOrders = true) (n : Nat) : RecOK P E.tys (run E n) := by
  induction n with
  | zero => exact ⟨fun h => by simp [run] at h, fun h => by simp [run] at h, fun h => by simp [run] at h⟩
  | succ n ih => exact run_next hT hF ih (draw_ok hT hm ih (run_mono E n))
end AM

/- The run without fuel: its limit, and the equation that it meets. -/
namespace AM
open Go

def Rec.Le (a b : Rec) : Prop := ∀ r m x, a r m = some x → b r m = some x
section
variable {T : Tys} {a b : Rec} (h : Rec.Le a b) {rd : Option Nat}
include h
theorem callV_le {f : AV} {args : List AV} {m : Mem} {x : OpR × Mem} (k : callV a f args m = some x) : callV b f args m = some x := by
  unfold callV at k ⊢
  cases f <;> (try dsimp only at k ⊢) <;> try exact k
  case fn f c =>
    cases hx : a (.call f (args ++ c) none) m with
    | none => rw [hx] at k; simp at k
    | some y => rw [hx] at k; rw [h _ _ _ hx]; exact k
  case yld l =>
    cases hg : m.get l with
    | none => rw [hg] at k; simp at k
    | some o =>
      rw [hg] at k
      cases o <;> (try dsimp only at k ⊢) <;> try exact k
      rename_i st p vars params assign code d
      cases st <;> (try dsimp only at k ⊢) <;> try exact k
      cases hb : Nat.beq args.length params.length <;> simp only [hb, cond_true, cond_false] at k ⊢ <;> try exact k
      cases hx : a (.code assign { vars := setParams vars params args, defers := [], pan := none, did := false } (some l)) m with
      | none => rw [hx] at k; simp at k
      | some y =>
        rw [hx] at k
        rw [h _ _ _ hx]
        obtain ⟨y, m1⟩ := y
        cases y <;> (try dsimp only at k ⊢) <;> try exact k
        rename_i e fr
        cases e <;> (try dsimp only at k ⊢) <;> try exact k
        cases hg2 : m1.get l with
        | none => rw [hg2] at k; simp at k
        | some o2 =>
          rw [hg2] at k
          cases o2 <;> (try dsimp only at k ⊢) <;> try exact k
          rename_i st2 p2 vars2 params2 assign2 code2 d2
          cases st2 <;> (try dsimp only at k ⊢) <;> try exact k
          cases hx2 : a (.code code fr (some l)) (m1.set l (.loop .busy p2 vars2 params2 assign2 code2 d2)) with
          | none => rw [hx2] at k; simp at k
          | some z => rw [hx2] at k; rw [h _ _ _ hx2]; exact k
theorem opRun_le {s : List AV} {op : AOp} {fr : Fr} {m : Mem} {x : OpR × Fr × Mem} (k : opRun T a rd s op fr m = some x) : opRun T b rd s op fr m = some x := by
  cases op <;> try exact k
  case call f as =>
    simp only [opRun] at k ⊢
    cases hx : callV a (ev s fr.vars f) (evs s fr.vars as) m with
    | none => rw [hx] at k; simp at k
    | some y => rw [hx] at k; rw [callV_le h hx]; exact k
theorem opsRun_le : ∀ {l : List AOper} {s : List AV} {fr : Fr} {m : Mem} {x : Ex × Fr × Mem}, opsRun T a rd l s fr m = some x → opsRun T b rd l s fr m = some x
  | [], _, _, _, _, k => k
  | o :: l, s, fr, m, x, k => by
    (try simp only [opsRun] at k ⊢)
    cases hw : wants s o <;> simp only [hw, cond_true, cond_false] at k ⊢
    · exact opsRun_le k
    · cases hx : opRun T a rd s o.op fr m with
      | none => rw [hx] at k; simp at k
      | some y =>
        rw [hx] at k; rw [opRun_le h hx]
        obtain ⟨y, fr1, m1⟩ := y
        cases y <;> (try dsimp only at k ⊢)
        · exact opsRun_le k
        · exact k
theorem drawRun_le {all : List AOper} {ancs : List Nat} {plan : Plan} {vs : List AV} : ∀ {l : List AOper} {n : Nat} {st : List (Nat × Mem)} {s : List AV} {fr : Fr} {m : Mem} {x : Ex × Fr × Mem}, drawRun T a rd all ancs plan vs n l st s fr m = some x → drawRun T b rd all ancs plan vs n l st s fr m = some x
  | [], _, _, _, _, _, _, k => k
  | o :: l, n, st, s, fr, m, x, k => by
    (try simp only [drawRun] at k ⊢)
    cases hw : wants s o <;> simp only [hw, cond_true, cond_false] at k ⊢
    · exact drawRun_le k
    · cases hx : opRun T a rd s o.op fr m with
      | none => rw [hx] at k; simp at k
      | some y =>
        rw [hx] at k; rw [opRun_le h hx]
        obtain ⟨y, fr1, m1⟩ := y
        cases y <;> (try dsimp only at k ⊢)
        · exact drawRun_le k
        · exact k
theorem codeRun_le : ∀ {c : ACode} {fr : Fr} {m : Mem} {x : Ex × Fr × Mem}, codeRun T a rd c fr m = some x → codeRun T b rd c fr m = some x := by
  intro c
  induction c with
  | skip => intro fr m x k; exact k
  | exit id => intro fr m x k; exact k
  | ret => intro fr m x k; exact k
  | bad => intro fr m x k; exact k
  | reg ops => intro fr m x k; exact opsRun_le h k
  | draw ops ancs plan => intro fr m x k; exact drawRun_le h k
  | seq p q ihp ihq =>
    intro fr m x k
    (try simp only [codeRun] at k ⊢)
    cases hx : codeRun T a rd p fr m with
    | none => rw [hx] at k; simp at k
    | some y =>
      rw [hx] at k; rw [ihp hx]
      obtain ⟨e, fr1, m1⟩ := y
      cases e <;> (try dsimp only at k ⊢) <;> try exact k
      exact ihq k
  | cond v p q ihp ihq =>
    intro fr m x k
    (try simp only [codeRun] at k ⊢)
    cases hx : ev [] fr.vars v <;> simp only [hx, reduceCtorEq] at k ⊢
    rename_i c
    cases c <;> simp only [cond_true, cond_false] at k ⊢
    · exact ihq k
    · exact ihp k
  | block id p ih =>
    intro fr m x k
    (try simp only [codeRun] at k ⊢)
    cases hx : codeRun T a rd p fr m with
    | none => rw [hx] at k; simp at k
    | some y => rw [hx] at k; rw [ih hx]; exact k
  | loop p ih =>
    intro fr m x k
    (try simp only [codeRun] at k ⊢)
    cases hx : a (.loop p fr rd) m with
    | none => rw [hx] at k; simp at k
    | some y => rw [hx] at k; rw [h _ _ _ hx]; exact k
  | range f params assign body iha ihb =>
    intro fr m x k
    (try simp only [codeRun] at k ⊢)
    cases hf : ev [] fr.vars f <;> simp only [hf, reduceCtorEq] at k ⊢
    rename_i fid captured
    split at k
    · simp at k
    · rename_i d mark m1 hd
      try rw [hd]
      (try dsimp only)
      cases hx : a (.call fid (.yld m1.next :: captured) none) (m1.push (.loop .ready none fr.vars params assign body d)) with
      | none => rw [hx] at k; simp at k
      | some y => rw [hx] at k; rw [h _ _ _ hx]; exact k
theorem unwindA_le : ∀ {l : List ADef} {p : Option AV} {m : Mem} {x : Option AV × Mem}, unwindA a l p m = some x → unwindA b l p m = some x
  | [], _, _, _, k => k
  | .coll r :: l, p, m, x, k => by
    (try simp only [unwindA] at k ⊢)
    cases hg : m.get r with
    | none => rw [hg] at k; simp at k
    | some o =>
      rw [hg] at k
      cases o <;> (try dsimp only at k ⊢) <;> try exact k
      rename_i q
      cases q <;> (try dsimp only at k ⊢)
      · exact k
      · exact unwindA_le k
  | .fn f as :: l, p, m, x, k => by
    (try simp only [unwindA] at k ⊢)
    cases hx : a (.call f as p) m with
    | none => rw [hx] at k; simp at k
    | some y =>
      rw [hx] at k; rw [h _ _ _ hx]
      obtain ⟨y, m1⟩ := y
      cases y <;> (try dsimp only at k ⊢) <;> try exact k
      rename_i o did
      cases o <;> (try dsimp only at k ⊢) <;> try exact k
      exact unwindA_le k
theorem stepA_le {E : Env} : Rec.Le (stepA E a) (stepA E b) := by
  intro r m x k
  cases r with
  | code c fr rd =>
    (try simp only [stepA] at k ⊢)
    cases hx : codeRun E.tys a rd c fr m with
    | none => rw [hx] at k; simp at k
    | some y => rw [hx] at k; rw [codeRun_le h hx]; exact k
  | loop c fr rd =>
    (try simp only [stepA] at k ⊢)
    cases hx : codeRun E.tys a rd c fr m with
    | none => rw [hx] at k; simp at k
    | some y =>
      rw [hx] at k; rw [codeRun_le h hx]
      obtain ⟨e, fr1, m1⟩ := y
      cases e <;> (try dsimp only at k ⊢) <;> try exact k
      exact h _ _ _ k
  | call f args pan =>
    (try simp only [stepA] at k ⊢)
    cases hg : E.fns.get f with
    | none => rw [hg] at k; simp at k
    | some c =>
      rw [hg] at k
      (try dsimp only at k ⊢)
      cases hx : codeRun E.tys a none c.code { vars := pickVars args c.vt, defers := [], pan, did := false } m with
      | none => rw [hx] at k; simp at k
      | some y =>
        rw [hx] at k; rw [codeRun_le h hx]
        obtain ⟨e, fr1, m1⟩ := y
        cases e <;> (try dsimp only at k ⊢) <;> try exact k
        case panic v =>
          cases hu : unwindA a fr1.defers (some v) m1 with
          | none => rw [hu] at k; simp at k
          | some z => rw [hu] at k; rw [unwindA_le h hu]; exact k
        all_goals
          cases hu : unwindA a fr1.defers none m1 with
          | none => rw [hu] at k; simp at k
          | some z => rw [hu] at k; rw [unwindA_le h hu]; exact k
end
theorem run_le_succ (E : Env) : ∀ n, Rec.Le (run E n) (run E (n + 1))
  | 0 => fun r m x k => by simp [run] at k
  | n + 1 => stepA_le (run_le_succ E n)
theorem run_le (E : Env) {n k : Nat} (h : n ≤ k) : Rec.Le (run E n) (run E k) := by
  induction k with
  | zero => rw [Nat.le_zero.1 h]; exact fun _ _ _ x => x
  | succ k ih =>
    by_cases e : n = k + 1
    · subst e; exact fun _ _ _ x => x
    · exact fun r m x hx => run_le_succ E k _ _ _ (ih (by omega) _ _ _ hx)
open Classical in
/-- The run, in as many steps as it takes. -/
noncomputable def runW (E : Env) : Rec := fun r m => if h : ∃ x n, run E n r m = some x then some h.choose else none
theorem runW_of {E : Env} {n : Nat} {r : Req} {m : Mem} {x : Res × Mem} (h : run E n r m = some x) : runW E r m = some x := by
  unfold runW
  have hx : ∃ x n, run E n r m = some x := ⟨x, n, h⟩
  rw [dif_pos hx]
  obtain ⟨k, hk⟩ := hx.choose_spec
  have h1 := run_le E (Nat.le_max_left n k) _ _ _ h
  have h2 := run_le E (Nat.le_max_right n k) _ _ _ hk
  rw [h1] at h2
  exact h2.symm
theorem runW_some {E : Env} {r : Req} {m : Mem} {x : Res × Mem} (h : runW E r m = some x) : ∃ n, run E n r m = some x := by
  unfold runW at h
  split at h
  · rename_i hx
    simp only [Option.some.injEq] at h
    rw [← h]
    exact hx.choose_spec
  · simp at h
section
variable {E : Env} {T : Tys} {rd : Option Nat}
theorem callV_lim {f : AV} {args : List AV} {m : Mem} {x : OpR × Mem} (k : callV (runW E) f args m = some x) : ∃ n, callV (run E n) f args m = some x := by
  unfold callV at k
  cases f <;> (try dsimp only at k) <;> try (simp at k; done)
  case fn f c =>
    cases hx : runW E (.call f (args ++ c) none) m with
    | none => rw [hx] at k; simp at k
    | some y =>
      rw [hx] at k
      obtain ⟨n, hn⟩ := runW_some hx
      refine ⟨n, ?_⟩
      unfold callV
      dsimp only
      rw [hn]; exact k
  case yld l =>
    cases hg : m.get l with
    | none => rw [hg] at k; simp at k
    | some o =>
      rw [hg] at k
      cases o <;> (try dsimp only at k) <;> try (simp at k; done)
      rename_i st p vars params assign code d
      cases st <;> (try dsimp only at k) <;> try (simp at k; done)
      cases hb : Nat.beq args.length params.length <;> simp only [hb, cond_true, cond_false, reduceCtorEq] at k
      cases hx : runW E (.code assign { vars := setParams vars params args, defers := [], pan := none, did := false } (some l)) m with
      | none => rw [hx] at k; simp at k
      | some y =>
        rw [hx] at k
        obtain ⟨n, hn⟩ := runW_some hx
        obtain ⟨y, m1⟩ := y
        cases y <;> (try dsimp only at k) <;> try (simp at k; done)
        rename_i e fr
        cases e <;> (try dsimp only at k) <;> try (simp at k; done)
        cases hg2 : m1.get l with
        | none => rw [hg2] at k; simp at k
        | some o2 =>
          rw [hg2] at k
          cases o2 <;> (try dsimp only at k) <;> try (simp at k; done)
          rename_i st2 p2 vars2 params2 assign2 code2 d2
          cases st2 <;> (try dsimp only at k) <;> try (simp at k; done)
          cases hx2 : runW E (.code code fr (some l)) (m1.set l (.loop .busy p2 vars2 params2 assign2 code2 d2)) with
          | none => rw [hx2] at k; simp at k
          | some z =>
            rw [hx2] at k
            obtain ⟨n2, hn2⟩ := runW_some hx2
            refine ⟨max n n2, ?_⟩
            unfold callV
            dsimp only
            rw [hg]
            dsimp only
            rw [hb, cond_true, run_le E (Nat.le_max_left n n2) _ _ _ hn]
            dsimp only
            rw [hg2]
            dsimp only
            rw [run_le E (Nat.le_max_right n n2) _ _ _ hn2]
            exact k
theorem opRun_lim {s : List AV} {op : AOp} {fr : Fr} {m : Mem} {x : OpR × Fr × Mem} (k : opRun T (runW E) rd s op fr m = some x) : ∃ n, opRun T (run E n) rd s op fr m = some x := by
  cases op <;> try exact ⟨0, k⟩
  case call f as =>
    simp only [opRun] at k
    cases hx : callV (runW E) (ev s fr.vars f) (evs s fr.vars as) m with
    | none => rw [hx] at k; simp at k
    | some y =>
      rw [hx] at k
      obtain ⟨n, hn⟩ := callV_lim hx
      exact ⟨n, by simp only [opRun]; rw [hn]; exact k⟩
theorem opsRun_lim : ∀ {l : List AOper} {s : List AV} {fr : Fr} {m : Mem} {x : Ex × Fr × Mem}, opsRun T (runW E) rd l s fr m = some x → ∃ n, opsRun T (run E n) rd l s fr m = some x
  | [], _, _, _, _, k => ⟨0, k⟩
  | o :: l, s, fr, m, x, k => by
    (try simp only [opsRun] at k ⊢)
    cases hw : wants s o <;> simp only [hw, cond_true, cond_false] at k ⊢
    · exact opsRun_lim k
    · cases hx : opRun T (runW E) rd s o.op fr m with
      | none => rw [hx] at k; simp at k
      | some y =>
        rw [hx] at k
        obtain ⟨n, hn⟩ := opRun_lim hx
        obtain ⟨y, fr1, m1⟩ := y
        cases y <;> dsimp only at k
        · obtain ⟨n2, hn2⟩ := opsRun_lim k
          exact ⟨max n n2, by rw [opRun_le (run_le E (Nat.le_max_left n n2)) hn]; exact opsRun_le (run_le E (Nat.le_max_right n n2)) hn2⟩
        · exact ⟨n, by rw [hn]; exact k⟩
theorem drawRun_lim {all : List AOper} {ancs : List Nat} {plan : Plan} {vs : List AV} : ∀ {l : List AOper} {n : Nat} {st : List (Nat × Mem)} {s : List AV} {fr : Fr} {m : Mem} {x : Ex × Fr × Mem}, drawRun T (runW E) rd all ancs plan vs n l st s fr m = some x → ∃ j, drawRun T (run E j) rd all ancs plan vs n l st s fr m = some x
  | [], _, _, _, _, _, _, k => ⟨0, k⟩
  | o :: l, n, st, s, fr, m, x, k => by
    (try simp only [drawRun] at k ⊢)
    cases hw : wants s o <;> simp only [hw, cond_true, cond_false] at k ⊢
    · exact drawRun_lim k
    · cases hx : opRun T (runW E) rd s o.op fr m with
      | none => rw [hx] at k; simp at k
      | some y =>
        rw [hx] at k
        obtain ⟨n1, hn⟩ := opRun_lim hx
        obtain ⟨y, fr1, m1⟩ := y
        cases y <;> dsimp only at k
        · obtain ⟨n2, hn2⟩ := drawRun_lim k
          exact ⟨max n1 n2, by rw [opRun_le (run_le E (Nat.le_max_left n1 n2)) hn]; exact drawRun_le (run_le E (Nat.le_max_right n1 n2)) hn2⟩
        · exact ⟨n1, by rw [hn]; exact k⟩
theorem codeRun_lim : ∀ {c : ACode} {fr : Fr} {m : Mem} {x : Ex × Fr × Mem}, codeRun T (runW E) rd c fr m = some x → ∃ n, codeRun T (run E n) rd c fr m = some x := by
  intro c
  induction c with
  | skip => intro fr m x k; exact ⟨0, k⟩
  | exit id => intro fr m x k; exact ⟨0, k⟩
  | ret => intro fr m x k; exact ⟨0, k⟩
  | bad => intro fr m x k; exact ⟨0, k⟩
  | reg ops => intro fr m x k; exact opsRun_lim k
  | draw ops ancs plan => intro fr m x k; exact drawRun_lim k
  | seq p q ihp ihq =>
    intro fr m x k
    (try simp only [codeRun] at k ⊢)
    cases hx : codeRun T (runW E) rd p fr m with
    | none => rw [hx] at k; simp at k
    | some y =>
      rw [hx] at k
      obtain ⟨n, hn⟩ := ihp hx
      obtain ⟨e, fr1, m1⟩ := y
      cases e <;> (try dsimp only at k) <;> try exact ⟨n, by rw [hn]; exact k⟩
      obtain ⟨n2, hn2⟩ := ihq k
      exact ⟨max n n2, by rw [codeRun_le (run_le E (Nat.le_max_left n n2)) hn]; exact codeRun_le (run_le E (Nat.le_max_right n n2)) hn2⟩
  | cond v p q ihp ihq =>
    intro fr m x k
    (try simp only [codeRun] at k ⊢)
    cases hx : ev [] fr.vars v <;> simp only [hx, reduceCtorEq] at k ⊢
    rename_i c
    cases c <;> simp only [cond_true, cond_false] at k ⊢
    · exact ihq k
    · exact ihp k
  | block id p ih =>
    intro fr m x k
    (try simp only [codeRun] at k ⊢)
    cases hx : codeRun T (runW E) rd p fr m with
    | none => rw [hx] at k; simp at k
    | some y =>
      rw [hx] at k
      obtain ⟨n, hn⟩ := ih hx
      exact ⟨n, by rw [hn]; exact k⟩
  | loop p ih =>
    intro fr m x k
    (try simp only [codeRun] at k ⊢)
    cases hx : runW E (.loop p fr rd) m with
    | none => rw [hx] at k; simp at k
    | some y =>
      rw [hx] at k
      obtain ⟨n, hn⟩ := runW_some hx
      exact ⟨n, by rw [hn]; exact k⟩
  | range f params assign body iha ihb =>
    intro fr m x k
    (try simp only [codeRun] at k ⊢)
    cases hf : ev [] fr.vars f <;> simp only [hf, reduceCtorEq] at k ⊢
    rename_i fid captured
    split at k
    · simp at k
    · rename_i d mark m1 hd
      try rw [hd]
      (try dsimp only)
      cases hx : runW E (.call fid (.yld m1.next :: captured) none) (m1.push (.loop .ready none fr.vars params assign body d)) with
      | none => rw [hx] at k; simp at k
      | some y =>
        rw [hx] at k
        obtain ⟨n, hn⟩ := runW_some hx
        exact ⟨n, by rw [hn]; exact k⟩
theorem unwindA_lim : ∀ {l : List ADef} {p : Option AV} {m : Mem} {x : Option AV × Mem}, unwindA (runW E) l p m = some x → ∃ n, unwindA (run E n) l p m = some x
  | [], _, _, _, k => ⟨0, k⟩
  | .coll r :: l, p, m, x, k => by
    (try simp only [unwindA] at k ⊢)
    cases hg : m.get r with
    | none => rw [hg] at k; simp at k
    | some o =>
      rw [hg] at k
      cases o <;> (try dsimp only at k ⊢) <;> try (simp at k; done)
      rename_i q
      cases q <;> (try dsimp only at k ⊢)
      · simp at k
      · exact unwindA_lim k
  | .fn f as :: l, p, m, x, k => by
    (try simp only [unwindA] at k ⊢)
    cases hx : runW E (.call f as p) m with
    | none => rw [hx] at k; simp at k
    | some y =>
      rw [hx] at k
      obtain ⟨n, hn⟩ := runW_some hx
      obtain ⟨y, m1⟩ := y
      cases y <;> (try dsimp only at k) <;> try (simp at k; done)
      rename_i o did
      cases o <;> (try dsimp only at k) <;> try (simp at k; done)
      obtain ⟨n2, hn2⟩ := unwindA_lim k
      exact ⟨max n n2, by rw [run_le E (Nat.le_max_left n n2) _ _ _ hn]; exact unwindA_le (run_le E (Nat.le_max_right n n2)) hn2⟩
theorem stepA_lim {r : Req} {m : Mem} {x : Res × Mem} (k : stepA E (runW E) r m = some x) : ∃ n, stepA E (run E n) r m = some x := by
  cases r with
  | code c fr rd =>
    (try simp only [stepA] at k ⊢)
    cases hx : codeRun E.tys (runW E) rd c fr m with
    | none => rw [hx] at k; simp at k
    | some y =>
      rw [hx] at k
      obtain ⟨n, hn⟩ := codeRun_lim hx
      exact ⟨n, by rw [hn]; exact k⟩
  | loop c fr rd =>
    (try simp only [stepA] at k ⊢)
    cases hx : codeRun E.tys (runW E) rd c fr m with
    | none => rw [hx] at k; simp at k
    | some y =>
      rw [hx] at k
      obtain ⟨n, hn⟩ := codeRun_lim hx
      obtain ⟨e, fr1, m1⟩ := y
      cases e <;> (try dsimp only at k) <;> try exact ⟨n, by rw [hn]; exact k⟩
      obtain ⟨n2, hn2⟩ := runW_some k
      exact ⟨max n n2, by rw [codeRun_le (run_le E (Nat.le_max_left n n2)) hn]; exact run_le E (Nat.le_max_right n n2) _ _ _ hn2⟩
  | call f args pan =>
    (try simp only [stepA] at k ⊢)
    cases hg : E.fns.get f with
    | none => rw [hg] at k; simp at k
    | some c =>
      rw [hg] at k
      (try dsimp only at k ⊢)
      cases hx : codeRun E.tys (runW E) none c.code { vars := pickVars args c.vt, defers := [], pan, did := false } m with
      | none => rw [hx] at k; simp at k
      | some y =>
        rw [hx] at k
        obtain ⟨n, hn⟩ := codeRun_lim hx
        obtain ⟨e, fr1, m1⟩ := y
        cases e <;> (try dsimp only at k) <;> try (simp at k; done)
        case panic v =>
          cases hu : unwindA (runW E) fr1.defers (some v) m1 with
          | none => rw [hu] at k; simp at k
          | some z =>
            rw [hu] at k
            obtain ⟨n2, hn2⟩ := unwindA_lim hu
            exact ⟨max n n2, by rw [codeRun_le (run_le E (Nat.le_max_left n n2)) hn]; dsimp only; rw [unwindA_le (run_le E (Nat.le_max_right n n2)) hn2]; exact k⟩
        all_goals
          cases hu : unwindA (runW E) fr1.defers none m1 with
          | none => rw [hu] at k; simp at k
          | some z =>
            rw [hu] at k
            obtain ⟨n2, hn2⟩ := unwindA_lim hu
            exact ⟨max n n2, by rw [codeRun_le (run_le E (Nat.le_max_left n n2)) hn]; dsimp only; rw [unwindA_le (run_le E (Nat.le_max_right n n2)) hn2]; exact k⟩
end
/-- One step of the run is the run. -/
theorem runW_eq (E : Env) (r : Req) (m : Mem) : runW E r m = stepA E (runW E) r m := by
  cases h : runW E r m with
  | some x =>
    obtain ⟨n, hn⟩ := runW_some h
    cases n with
    | zero => simp [run] at hn
    | succ n => exact (stepA_le (fun r m x hx => runW_of hx) _ _ _ hn).symm
  | none =>
    cases k : stepA E (runW E) r m with
    | none => rfl
    | some x =>
      obtain ⟨n, hn⟩ := stepA_lim k
      have : run E (n + 1) r m = some x := hn
      rw [runW_of this] at h
      simp at h
theorem runW_mono (E : Env) : RecMono (runW E) := fun r m res m' h => by
  obtain ⟨n, hn⟩ := runW_some h
  exact run_mono E n _ _ _ _ hn
theorem runW_ok {P : Program} {E : Env} (hT : TysOK P E.tys) (hF : FnsOK P E.tys E.fns) (hm : P.follows .mixedOrders = true) : RecOK P E.tys (runW E) := by
  refine ⟨fun h => ?_, fun h => ?_, fun h => ?_⟩
  · obtain ⟨n, hn⟩ := runW_some h; exact (run_ok hT hF hm n).code hn
  · obtain ⟨n, hn⟩ := runW_some h; exact (run_ok hT hF hm n).loop hn
  · obtain ⟨n, hn⟩ := runW_some h; exact (run_ok hT hF hm n).call hn
/-- A call from outside. -/
theorem runW_calls {P : Program} {E : Env} (hT : TysOK P E.tys) (hF : FnsOK P E.tys E.fns) (hm : P.follows .mixedOrders = true) {f : FuncId} {args : List AV} {m m' : Mem} {v : AV} {did : Bool} (h : runW E (.call f args none) m = some (.out (.ret v) did, m'))
    {ρ : Gh} {w : World} {args' : Array Value} (H : MR E.tys ρ m w) (ha : VRs ρ args args'.toList) :
    Calls P f args' w fun e w' => ∃ v' ρ', e = .returned v' ∧ VR ρ' v v' ∧ MR E.tys ρ' m' w' ∧ Adv ρ w ρ' w' := by
  intro cs
  have hpan : PanR ρ .normal cs none false := ⟨fun v hv => by simp at hv, fun _ fr hfr => by unfold tryRecover; rw [hfr]⟩
  obtain ⟨_, hc⟩ := (runW_ok hT hF hm).call h
  obtain ⟨ρ', w', fr, h1, h2, h3, h4, h5, h6, h7, fn, v', h8, h9, h10⟩ := hc (cs := cs) (kind := .normal) H ha hpan
  rw [calOf_normal] at h6
  refine ⟨.returned v', w', fr, ⟨v', ρ', rfl, h10, h1, h2⟩, h6, h3, h7, h5, h4, fn, ?_, h9⟩
  rw [h3]; exact h8
end AM

/- What is asked of the tables, as Bools; behind a law's call all that was there reads as it did. -/
namespace AM
open Go

/-! ### Tables -/
namespace Trie
variable {α : Type}
def allB (p : Nat → α → Bool) : Trie α → Bool
  | .leaf => true
  | .node v l r => (match v with | some a => p 0 a | none => true) && allB (fun i a => p (2 * i + 1) a) l && allB (fun i a => p (2 * i + 2) a) r
theorem allB_get : ∀ {t : Trie α} {p : Nat → α → Bool}, t.allB p = true → ∀ n a, t.get n = some a → p n a = true
  | .leaf, p, _, n, a, h => by simp [get] at h
  | .node v l r, p, hp, n, a, h => by
    simp only [allB, Bool.and_eq_true] at hp
    rw [get_node] at h
    split at h
    · rename_i h0; subst h0; rw [h] at hp; exact hp.1.1
    · split at h
      · have := allB_get hp.1.2 _ _ h
        rwa [show 2 * (n / 2) + 1 = n from by omega] at this
      · have := allB_get hp.2 _ _ h
        rwa [show 2 * (n / 2 - 1) + 2 = n from by omega] at this
def All (p : Nat → α → Prop) (t : Trie α) : Prop := ∀ n a, t.get n = some a → p n a
theorem all_leaf {p : Nat → α → Prop} : All p (.leaf : Trie α) := fun n a h => by simp [get] at h
theorem all_node {p : Nat → α → Prop} {v : Option α} {l r : Trie α} (h0 : ∀ a, v = some a → p 0 a) (hl : All (fun i a => p (2 * i + 1) a) l) (hr : All (fun i a => p (2 * i + 2) a) r) : All p (.node v l r) := by
  intro n a h
  rw [get_node] at h
  split at h
  · rename_i e; subst e; exact h0 a h
  · split at h
    · have := hl _ _ h
      simp only at this
      rwa [show 2 * (n / 2) + 1 = n from by omega] at this
    · have := hr _ _ h
      simp only at this
      rwa [show 2 * (n / 2 - 1) + 2 = n from by omega] at this
theorem all_some {p : Nat → α → Prop} {b : α} {l r : Trie α} (h0 : p 0 b) (hl : All (fun i a => p (2 * i + 1) a) l) (hr : All (fun i a => p (2 * i + 2) a) r) : All p (.node (some b) l r) :=
  all_node (fun _ e => by simp only [Option.some.injEq] at e; exact e ▸ h0) hl hr
theorem all_none {p : Nat → α → Prop} {l r : Trie α} (hl : All (fun i a => p (2 * i + 1) a) l) (hr : All (fun i a => p (2 * i + 2) a) r) : All p (.node none l r) :=
  all_node (fun _ e => by simp at e) hl hr
end Trie
theorem mapM_ofConst {ρ : Gh} : ∀ {l : List Value} {r : List AV}, l.mapM ofConst = some r → VRs ρ r l
  | [], r, h => by simp at h; subst h; exact .nil
  | v :: l, r, h => by
    simp only [List.mapM_cons, Option.pure_def, Option.bind_eq_bind, Option.bind_eq_some_iff, Option.some.injEq] at h
    obtain ⟨a, ha, r', hr, rfl⟩ := h
    exact .cons (ofConst_ok ha) (mapM_ofConst hr)
theorem constC_ok {ρ : Gh} {v : Value} {a : AV} (h : constC v = some a) : VR ρ a v := by
  unfold constC at h
  split at h
  · split at h <;> simp only [Option.some.injEq, reduceCtorEq] at h
    rename_i l hl
    subst h
    have := VR.agg (mapM_ofConst (ρ := ρ) hl)
    simpa using this
  · exact ofConst_ok h
def fldB (P : Program) (fl : Fld) (f : Field) : Bool :=
  Nat.beq f.offset fl.off && Nat.beq f.type fl.type && (match P.info? f.type with | some i => Nat.beq i.size fl.size | none => false) &&
    (match P.underlying f.type with | some d => aggD d == fl.agg | none => false) && ((f.name == "_") == fl.blank)
def fldsB (P : Program) : List Fld → List Field → Bool
  | [], [] => true
  | a :: l, b :: r => fldB P a b && fldsB P l r
  | _, _ => false
def kB (P : Program) (t : TypeId) : TK → TypeDesc → Bool
  | .bool, .bool => true
  | .int k, .int k' => decide (k = k')
  | .str, .string => true
  | .ptr e, .pointer e' => Nat.beq e e'
  | .slice e, .slice e' => Nat.beq e e'
  | .map k e, .map k' e' => Nat.beq k k' && Nat.beq e e'
  | .func, .func _ _ _ => true
  | .iface, .interface _ => true
  | .struct fs, .struct fields => !P.stoodInHeld t && !P.eqGuardType P.depth t && fldsB P fs fields.toList
  | .other, _ => true
  | _, _ => false
def tyB (P : Program) (t : TypeId) (y : Ty) : Bool :=
  (match P.info? t with
  | some i => Nat.beq i.size y.size && Nat.beq i.bytes y.bytes && (match i.zero with | some z => (match constC z with | some a => AV.same a y.zero | none => false) | none => false)
  | none => false) &&
  (match P.underlying t with | some d => kB P t y.k d | none => false) && Nat.beq y.zero.cells.length y.size && y.zero.cells.all AV.one
theorem fldB_ok {P : Program} {fl : Fld} {f : Field} (h : fldB P fl f = true) : FldOK P fl f := by
  simp only [fldB, Bool.and_eq_true, nbeq, decide_eq_true_eq] at h
  obtain ⟨⟨⟨⟨h1, h2⟩, h3⟩, h4⟩, h5⟩ := h
  refine ⟨h1, h2, ?_, ?_, by simpa using h5⟩
  · split at h3 <;> simp only [decide_eq_true_eq, Bool.false_eq_true] at h3
    rename_i i hi; exact ⟨i, hi, h3⟩
  · split at h4 <;> simp only [beq_iff_eq, Bool.false_eq_true] at h4
    rename_i d hd; exact ⟨d, hd, h4⟩
theorem fldsB_ok {P : Program} : ∀ {l : List Fld} {r : List Field}, fldsB P l r = true → r.length = l.length ∧ ∀ (i : Nat) (fl : Fld), l[i]? = some fl → ∃ f, r[i]? = some f ∧ FldOK P fl f
  | [], [], _ => ⟨rfl, fun i fl h => by simp at h⟩
  | [], _ :: _, h => by simp [fldsB] at h
  | _ :: _, [], h => by simp [fldsB] at h
  | a :: l, b :: r, h => by
    simp only [fldsB, Bool.and_eq_true] at h
    obtain ⟨h1, h2⟩ := fldsB_ok h.2
    refine ⟨by simp [h1], fun i fl hf => ?_⟩
    cases i with
    | zero => simp at hf; subst hf; exact ⟨b, rfl, fldB_ok h.1⟩
    | succ i => simpa using h2 i fl (by simpa using hf)
theorem kB_ok {P : Program} {t : TypeId} {k : TK} {d : TypeDesc} (h : kB P t k d = true) : KOK P t d k := by
  cases k <;> cases d <;> simp only [kB, Bool.and_eq_true, nbeq, decide_eq_true_eq, Bool.false_eq_true, Bool.not_eq_true'] at h
  case struct.struct fs fields =>
    obtain ⟨⟨h1, h2⟩, h3⟩ := h
    obtain ⟨h4, h5⟩ := fldsB_ok h3
    exact ⟨h1, h2, fields, rfl, by simpa using h4, fun i fl hi => by obtain ⟨f, h6, h7⟩ := h5 i fl hi; exact ⟨f, by simpa using h6, h7⟩⟩
  all_goals first
    | exact rfl
    | exact trivial
    | (subst h; exact rfl)
    | (obtain ⟨rfl, rfl⟩ := h; exact rfl)
    | exact ⟨_, _, _, rfl⟩
    | exact ⟨_, rfl⟩
theorem tyB_ok {P : Program} {t : TypeId} {y : Ty} (h : tyB P t y = true) : TyOK P t y := by
  simp only [tyB, Bool.and_eq_true, nbeq, decide_eq_true_eq] at h
  obtain ⟨⟨⟨h1, h2⟩, h3⟩, h4⟩ := h
  refine ⟨?_, ?_, h3, h4⟩
  · split at h1 <;> simp only [Bool.and_eq_true, decide_eq_true_eq, Bool.false_eq_true] at h1
    rename_i i hi
    obtain ⟨⟨h5, h6⟩, h7⟩ := h1
    split at h7 <;> try simp only [Bool.false_eq_true] at h7
    rename_i z hz
    split at h7 <;> try simp only [Bool.false_eq_true] at h7
    rename_i a ha
    exact ⟨i, z, hi, h5, h6, hz, fun ρ => same_eq h7 ▸ constC_ok ha⟩
  · split at h2 <;> try simp only [Bool.false_eq_true] at h2
    rename_i d hd
    exact ⟨d, hd, kB_ok h2⟩
theorem tys_of {P : Program} {T : Tys} (h : T.allB (tyB P) = true) : TysOK P T := fun t y hy => tyB_ok (Trie.allB_get h t y hy)
theorem incr_nodup : ∀ {l : List Nat}, incr l = true → l.Pairwise (· < ·)
  | [], _ => .nil
  | [a], _ => by simp
  | a :: b :: l, h => by
    simp only [incr, Bool.and_eq_true, nblt, decide_eq_true_eq] at h
    have ih := incr_nodup h.2
    refine List.pairwise_cons.2 ⟨fun x hx => ?_, ih⟩
    rcases List.mem_cons.1 hx with rfl | hx
    · exact h.1
    · exact Nat.lt_trans h.1 ((List.pairwise_cons.1 ih).1 x hx)
def fnB (T : Tys) (vt : List Tmp) (fn : Func) : Bool :=
  fn.body.isSome && !(fn.name == "runtime.NumGoroutine") && (compRes T vt fn.results.toList).isSome && vt.all (Nat.blt · fn.ntmps) && incr vt
theorem fn_of {P : Program} {T : Tys} {f : FuncId} {vt : List Tmp} {fn : Func} {a : AFn} (h1 : P.funcs[f]? = some fn) (h2 : fnB T vt fn = true) (h3 : compFn T vt fn = a) : FnOK P T f a := by
  simp only [fnB, Bool.and_eq_true, Bool.not_eq_true'] at h2
  obtain ⟨⟨⟨⟨hb, hn⟩, hr⟩, ht⟩, hi⟩ := h2
  obtain ⟨code, hcode⟩ := Option.isSome_iff_exists.1 hb
  obtain ⟨r, hr⟩ := Option.isSome_iff_exists.1 hr
  have ha : a = { vt, code := comp T vt fn.ntmps code, results := r } := by
    rw [← h3]; simp only [compFn, hr, ht, hi, Bool.and_self, bodyOf, hcode]
  subst ha
  refine ⟨fn, code, h1, hcode, hn, rfl, (incr_nodup hi).imp Nat.ne_of_lt, fun x hx => ?_, hr⟩
  have := List.all_eq_true.1 ht x hx
  simpa [nblt] using this

/-! ### Behind the call -/
open Go.RowKit Go.ChangeShapes
theorem below_of {ρ ρ' : Gh} {w w' : World} (h : Adv ρ w ρ' w') (hro : ∀ o g l, ρ o g = some l → l.rw = false) : Below w.heap.size w w' :=
  ⟨h.keep.os, h.keep.tape, h.keep.output, h.keep.size, fun k hk => h.keep.block k hk fun o g l hl hr => by rw [hro o g l hl] at hr; simp at hr⟩
theorem trodAll_below {H : Type} {enc : TypeId × Value → H} {P : Program} (hl : laidOutB P = true) {W W' : World} (hb : Below W.heap.size W W') :
    ∀ {ts : List TypeId} {vs : List Value} {ds : List (DataW H)} {ps : List MemPlace}, (∀ t ∈ ts, P.readableRec t = true ∧ t < P.types.size) → (∀ x ∈ ps, x.block < W.heap.size) →
      DataW.TrodAll enc P W 0 (fun _ => true) true ts vs ds ps → DataW.TrodAll enc P W' 0 (fun b => decide (b < W.heap.size)) true ts vs ds ps
  | [], vs, ds, ps, _, _, h => by obtain ⟨rfl, rfl, rfl⟩ := trodAll_nil h; exact trodAll_mk0
  | t :: ts, vs, ds, ps, ht, hlt, h => by
    obtain ⟨v, vs1, d, ds1, a, b, rfl, rfl, rfl, h1, h2⟩ := trodAll_cons h
    have hr := ht t (by simp)
    exact trodAll_cons_mk (Below.trod hl hr.1 hr.2 h1 hb fun x hx => hlt x (by simp [hx])) (trodAll_below hl hb (fun t' ht' => ht t' (by simp [ht'])) (fun x hx => hlt x (by simp [hx])) h2)
/-- A law's answer. -/
theorem law_post {H : Type} {enc : TypeId × Value → H} {P : Program} {f : Func} {s : ChangeSpec} {W W' : World} {args : Array Value} {ds gs : List (DataW H)} {before : List MemPlace} {t : TypeId}
    (hl : laidOutB P = true) (hp : ∀ t ∈ f.params.toList, P.readableRec t = true ∧ t < P.types.size) (hv : varsRowed P s.vars = true) (hr : f.resultTypes = #[t]) (ht : P.underlying t = some .bool)
    (hW : DataW.Whole enc P f.params.toList s.vars false W args.toList ds gs before) (hb : Below W.heap.size W W')
    (hs : (s.fn H (ds ++ gs)).results = [.lit (.bool true)] ∧ (s.fn H (ds ++ gs)).args = ds ∧ (s.fn H (ds ++ gs)).vars = gs) :
    s.post enc P f false true false false W args (.bool true) W' := by
  have hlt := fun x hx => hW.lt x hx
  obtain ⟨p, q, hA, hV, hps, hz, hn⟩ := id hW
  refine ⟨ds, gs, before, [], p, q, hW, ?_, ?_, ?_, hb.frame _, fun h => by simp at h⟩
  · rw [hs.1, hr]
    simp only [Value.resultList, List.size_toArray, List.length_cons, List.length_nil]
    exact trodAll_mk1 (shut_bool ht true)
  · rw [hs.2.1]
    exact trodAll_below hl hb hp (fun x hx => hlt x (by rw [hps]; simp [hx])) hA
  · rw [hs.2.2]
    exact Below.trodVars hl hb hv hV
end AM

/- The interpreter once more, as the kernel likes it: by the types' own recursors, with closed arms. -/
namespace AM
open Go

/-! ### Lists -/
noncomputable def nthK (l : List AV) : Nat → AV := List.rec (motive := fun _ => Nat → AV) (fun _ => .und) (fun v _ ih n => Nat.rec (motive := fun _ => AV) v (fun k _ => ih k) n) l
theorem nthK_eq : ∀ (l : List AV) (n : Nat), nthK l n = nth l n
  | [], _ => rfl
  | _ :: _, 0 => rfl
  | _ :: l, n + 1 => nthK_eq l n
noncomputable def updK (l : List AV) : Nat → AV → List AV := List.rec (motive := fun _ => Nat → AV → List AV) (fun _ _ => []) (fun v l ih n x => Nat.rec (motive := fun _ => List AV) (x :: l) (fun k _ => v :: ih k x) n) l
theorem updK_eq : ∀ (l : List AV) (n : Nat) (x : AV), updK l n x = upd l n x
  | [], _, _ => rfl
  | _ :: _, 0, _ => rfl
  | v :: l, n + 1, x => congrArg (v :: ·) (updK_eq l n x)
noncomputable def evK (s vs : List AV) (x : AX) : AV := AX.casesOn (motive := fun _ => AV) x (fun i => nthK s i) (fun j => nthK vs j) (fun a => a)
theorem evK_eq (s vs : List AV) (x : AX) : evK s vs x = ev s vs x := by cases x <;> simp only [evK, ev, nthK_eq]
noncomputable def evsK (s vs : List AV) (l : List AX) : List AV := List.rec (motive := fun _ => List AV) [] (fun x _ ih => evK s vs x :: ih) l
theorem evsK_eq (s vs : List AV) : ∀ l : List AX, evsK s vs l = evs s vs l
  | [] => rfl
  | x :: l => by
    show evK s vs x :: evsK s vs l = _
    rw [evK_eq, evsK_eq s vs l]; rfl
noncomputable def dropK (l : List AV) : Nat → List AV := List.rec (motive := fun _ => Nat → List AV) (fun _ => []) (fun v l ih n => Nat.rec (motive := fun _ => List AV) (v :: l) (fun k _ => ih k) n) l
theorem dropK_eq : ∀ (l : List AV) (n : Nat), dropK l n = dropD l n
  | [], 0 => rfl
  | [], _ + 1 => rfl
  | _ :: _, 0 => rfl
  | _ :: l, n + 1 => dropK_eq l n
noncomputable def atK (l : List AV) : Nat → Option AV := List.rec (motive := fun _ => Nat → Option AV) (fun _ => none) (fun v _ ih n => Nat.rec (motive := fun _ => Option AV) (some v) (fun k _ => ih k) n) l
theorem atK_eq : ∀ (l : List AV) (n : Nat), atK l n = at? l n
  | [], _ => rfl
  | _ :: _, 0 => rfl
  | _ :: l, n + 1 => atK_eq l n

/-! ### Memory -/
noncomputable def Trie.getK {α : Type} (t : Trie α) : Nat → Option α :=
  Trie.rec (motive := fun _ => Nat → Option α) (fun _ => none) (fun v _ _ il ir n => bif Nat.beq n 0 then v else bif Nat.beq (n % 2) 1 then il (n / 2) else ir (n / 2 - 1)) t
theorem Trie.getK_eq {α : Type} : ∀ (t : Trie α) (n : Nat), t.getK n = t.get n
  | .leaf, _ => rfl
  | .node v l r, n => by
    show (bif Nat.beq n 0 then v else bif Nat.beq (n % 2) 1 then l.getK (n / 2) else r.getK (n / 2 - 1)) = _
    rw [getK_eq l, getK_eq r]; rfl
noncomputable def Trie.setK {α : Type} (f : Nat) : Trie α → Nat → α → Trie α :=
  Nat.rec (motive := fun _ => Trie α → Nat → α → Trie α) (fun t _ _ => t) (fun _ ih t n a =>
    Trie.casesOn (motive := fun _ => Trie α) t
      (bif Nat.beq n 0 then .node (some a) .leaf .leaf
        else bif Nat.beq (n % 2) 1 then .node none (ih .leaf (n / 2) a) .leaf
        else .node none .leaf (ih .leaf (n / 2 - 1) a))
      (fun v l r => bif Nat.beq n 0 then .node (some a) l r
        else bif Nat.beq (n % 2) 1 then .node v (ih l (n / 2) a) r
        else .node v l (ih r (n / 2 - 1) a))) f
theorem Trie.setK_eq {α : Type} : ∀ (f : Nat) (t : Trie α) (n : Nat) (a : α), Trie.setK f t n a = setF f t n a
  | 0, _, _, _ => rfl
  | f + 1, .leaf, n, a => by
    show (bif Nat.beq n 0 then _ else bif Nat.beq (n % 2) 1 then Trie.node none (Trie.setK f .leaf (n / 2) a) .leaf else .node none .leaf (Trie.setK f .leaf (n / 2 - 1) a)) = _
    rw [setK_eq f, setK_eq f]; rfl
  | f + 1, .node v l r, n, a => by
    show (bif Nat.beq n 0 then _ else bif Nat.beq (n % 2) 1 then Trie.node v (Trie.setK f l (n / 2) a) r else .node v l (Trie.setK f r (n / 2 - 1) a)) = _
    rw [setK_eq f, setK_eq f]; rfl
noncomputable def Mem.getK (m : Mem) (o : Nat) : Option Obj := m.tr.getK o
theorem Mem.getK_eq (m : Mem) (o : Nat) : m.getK o = m.get o := Trie.getK_eq _ _
noncomputable def Mem.setK (m : Mem) (o : Nat) (x : Obj) : Mem := { tr := Trie.setK (o + 1) m.tr o x, next := m.next }
theorem Mem.setK_eq (m : Mem) (o : Nat) (x : Obj) : m.setK o x = m.set o x := by
  unfold Mem.setK Mem.set Trie.set; rw [Trie.setK_eq]
noncomputable def Mem.pushK (m : Mem) (x : Obj) : Mem := { tr := Trie.setK (m.next + 1) m.tr m.next x, next := m.next + 1 }
theorem Mem.pushK_eq (m : Mem) (x : Obj) : m.pushK x = m.push x := by
  unfold Mem.pushK Mem.push Trie.set; rw [Trie.setK_eq]
/-- A row of one's own generation. -/
noncomputable def rowK {R : Type} (m : Mem) (o : Nat) (d : R) (f : Row → R) : R :=
  Option.rec (motive := fun _ => R) d (fun x => Obj.casesOn (motive := fun _ => R) x f (fun _ _ => d) (fun _ _ _ _ _ _ _ => d) (fun _ => d)) (m.getK o)
noncomputable def readK (m : Mem) (o g off n : Nat) : Option (List AV) := rowK m o none fun r => bif Nat.beq g r.gen then takeD (dropK r.cells off) n else none
theorem readK_eq (m : Mem) (o g off n : Nat) : readK m o g off n = m.read o g off n := by
  unfold readK rowK Mem.read
  rw [Mem.getK_eq]
  cases m.get o with
  | none => rfl
  | some x => cases x <;> simp only [dropK_eq]
noncomputable def read1K (m : Mem) (o g off : Nat) : Option AV := rowK m o none fun r => bif Nat.beq g r.gen then atK r.cells off else none

/-! ### Values -/
section
variable {R : Type}
noncomputable def asInt (v : AV) (d : R) (f : IntKind → Int → R) : R := AV.casesOn (motive_1 := fun _ => R) v (fun _ => d) f (fun _ => d) d (fun _ _ _ => d) d (fun _ _ _ _ _ _ _ => d) d (fun _ => d) d (fun _ _ => d) (fun _ => d) d (fun _ _ => d) (fun _ => d) (fun _ => d)
noncomputable def asBool (v : AV) (d : R) (f : Bool → R) : R := AV.casesOn (motive_1 := fun _ => R) v f (fun _ _ => d) (fun _ => d) d (fun _ _ _ => d) d (fun _ _ _ _ _ _ _ => d) d (fun _ => d) d (fun _ _ => d) (fun _ => d) d (fun _ _ => d) (fun _ => d) (fun _ => d)
noncomputable def asStr (v : AV) (d : R) (f : ByteArray → R) : R := AV.casesOn (motive_1 := fun _ => R) v (fun _ => d) (fun _ _ => d) f d (fun _ _ _ => d) d (fun _ _ _ _ _ _ _ => d) d (fun _ => d) d (fun _ _ => d) (fun _ => d) d (fun _ _ => d) (fun _ => d) (fun _ => d)
noncomputable def asPtr (v : AV) (d : R) (f : Nat → Nat → Nat → R) : R := AV.casesOn (motive_1 := fun _ => R) v (fun _ => d) (fun _ _ => d) (fun _ => d) d f d (fun _ _ _ _ _ _ _ => d) d (fun _ => d) d (fun _ _ => d) (fun _ => d) d (fun _ _ => d) (fun _ => d) (fun _ => d)
noncomputable def asSlc (v : AV) (d : R) (f : Nat → Nat → Nat → Nat → Nat → Nat → Nat → R) : R := AV.casesOn (motive_1 := fun _ => R) v (fun _ => d) (fun _ _ => d) (fun _ => d) d (fun _ _ _ => d) d f d (fun _ => d) d (fun _ _ => d) (fun _ => d) d (fun _ _ => d) (fun _ => d) (fun _ => d)
noncomputable def asFn (v : AV) (d : R) (f : FuncId → List AV → R) : R := AV.casesOn (motive_1 := fun _ => R) v (fun _ => d) (fun _ _ => d) (fun _ => d) d (fun _ _ _ => d) d (fun _ _ _ _ _ _ _ => d) d (fun _ => d) d f (fun _ => d) d (fun _ _ => d) (fun _ => d) (fun _ => d)
noncomputable def asAgg (v : AV) (d : R) (f : List AV → R) : R := AV.casesOn (motive_1 := fun _ => R) v (fun _ => d) (fun _ _ => d) (fun _ => d) d (fun _ _ _ => d) d (fun _ _ _ _ _ _ _ => d) d (fun _ => d) d (fun _ _ => d) (fun _ => d) d (fun _ _ => d) f (fun _ => d)
noncomputable def asTup (v : AV) (d : R) (f : List AV → R) : R := AV.casesOn (motive_1 := fun _ => R) v (fun _ => d) (fun _ _ => d) (fun _ => d) d (fun _ _ _ => d) d (fun _ _ _ _ _ _ _ => d) d (fun _ => d) d (fun _ _ => d) (fun _ => d) d (fun _ _ => d) (fun _ => d) f
end
noncomputable def inK (lo hi n : Int) (k : IntKind) : Int := bif leI lo n && leI n hi then n else k.wrap n
noncomputable def wrapK (k : IntKind) (n : Int) : Int :=
  IntKind.casesOn (motive := fun _ => Int → Int) k (fun n => inK (.negSucc 127) (.ofNat 127) n .i8) (fun n => inK (.negSucc 32767) (.ofNat 32767) n .i16) (fun n => inK (.negSucc 2147483647) (.ofNat 2147483647) n .i32)
    (fun n => inK (.negSucc 9223372036854775807) (.ofNat 9223372036854775807) n .i64) (fun n => inK (.ofNat 0) (.ofNat 255) n .u8) (fun n => inK (.ofNat 0) (.ofNat 65535) n .u16) (fun n => inK (.ofNat 0) (.ofNat 4294967295) n .u32)
    (fun n => inK (.ofNat 0) (.ofNat 18446744073709551615) n .u64) n
theorem inK_eq {lo hi n : Int} {k : IntKind} (h : lo ≤ n → n ≤ hi → k.wrap n = n) : inK lo hi n k = k.wrap n := by
  unfold inK
  rw [leI_eq, leI_eq]
  by_cases h1 : lo ≤ n
  · by_cases h2 : n ≤ hi
    · simp [h1, h2, h h1 h2]
    · simp [h2]
  · simp [h1]
theorem wrapK_eq (k : IntKind) (n : Int) : wrapK k n = k.wrap n := by
  cases k <;> refine inK_eq fun h1 h2 => ?_ <;> simp only [Int.negSucc_eq, Int.ofNat_eq_natCast] at h1 h2 <;>
    simp only [IntKind.wrap, IntKind.bits, IntKind.signed, Bool.true_and, Bool.false_and, Bool.false_eq_true, if_false, Nat.reduceSub, Int.reducePow] <;> first | omega | (split <;> rename_i h <;> simp at h <;> omega)

/-! ### Operations on values -/
noncomputable def arithK (op : BinOp) : IntKind → Int → Int → Option AV :=
  BinOp.casesOn (motive := fun _ => IntKind → Int → Int → Option AV) op
    (fun k a b => some (.int k (wrapK k (a + b)))) (fun k a b => some (.int k (wrapK k (a - b)))) (fun k a b => some (.int k (wrapK k (a * b))))
    (fun k a b => arith .quo k a b) (fun k a b => arith .rem k a b) (fun k a b => arith .and k a b) (fun k a b => arith .or k a b) (fun k a b => arith .xor k a b) (fun _ _ _ => none) (fun _ _ _ => none) (fun k a b => arith .andNot k a b)
    (fun _ a b => some (.bool (eqI a b))) (fun _ a b => some (.bool !(eqI a b))) (fun _ a b => some (.bool (ltI a b))) (fun _ a b => some (.bool (leI a b))) (fun _ a b => some (.bool (ltI b a))) (fun _ a b => some (.bool (leI b a)))
theorem arithK_eq (op : BinOp) (k : IntKind) (a b : Int) : arithK op k a b = arith op k a b := by
  cases op <;> simp only [arithK, arith, wrapK_eq]
def isShift : BinOp → Bool
  | .shl | .shr => true
  | _ => false
/-- Bytes, one by one. -/
noncomputable def bytesK (a : List UInt8) : List UInt8 → Bool :=
  List.rec (motive := fun _ => List UInt8 → Bool) (fun b => List.casesOn (motive := fun _ => Bool) b true (fun _ _ => false))
    (fun x _ ih b => List.casesOn (motive := fun _ => Bool) b false (fun y l => bif Nat.beq x.toNat y.toNat then ih l else false)) a
theorem bytesK_eq : ∀ a b : List UInt8, bytesK a b = (a == b)
  | [], [] => rfl
  | [], _ :: _ => rfl
  | _ :: _, [] => rfl
  | x :: a, y :: b => by
    show (bif Nat.beq x.toNat y.toNat then bytesK a b else false) = _
    rw [bytesK_eq a b, nbeq, List.cons_beq_cons]
    by_cases h : x = y
    · subst h; simp
    · have : ¬ x.toNat = y.toNat := fun e => h (UInt8.toNat_inj.1 e)
      simp [h, this]
noncomputable def strK (op : BinOp) (x y : ByteArray) : Option AV :=
  BinOp.casesOn (motive := fun _ => Option AV) op (strOp .add x y) none none none none none none none none none none
    (some (.bool (bytesK x.data.toList y.data.toList))) (some (.bool !(bytesK x.data.toList y.data.toList))) (strOp .lss x y) (strOp .leq x y) (strOp .gtr x y) (strOp .geq x y)
theorem strK_eq (op : BinOp) (x y : ByteArray) : strK op x y = strOp op x y := by
  cases op <;> simp only [strK, strOp, bytesK_eq]
noncomputable def binK (T : Tys) (op : BinOp) (t : TypeId) (x y : AV) : Option AV :=
  bif isShift op then binV T op t x y
  else asInt x (asStr x (binV T op t x y) fun a => asStr y (binV T op t x y) fun b => strK op a b)
    fun k a => asInt y (binV T op t x y) fun k' b => if k = k' then arithK op k a b else none
theorem binK_eq (T : Tys) (op : BinOp) (t : TypeId) (x y : AV) : binK T op t x y = binV T op t x y := by
  unfold binK
  cases hs : isShift op with
  | true => rfl
  | false =>
    simp only [cond_false]
    cases x <;> try rfl
    · rename_i k a
      cases y <;> try rfl
      rename_i k' b
      show (if k = k' then arithK op k a b else none) = _
      rw [arithK_eq]
      cases op <;> first | rfl | simp [isShift] at hs
    · rename_i a
      cases y <;> try rfl
      rename_i b
      show strK op a b = _
      rw [strK_eq]
      cases op <;> first | rfl | simp [isShift] at hs
noncomputable def retP (x : Option AV) (fr : Fr) (m : Mem) : Option (OpR × Fr × Mem) := Option.rec (motive := fun _ => Option (OpR × Fr × Mem)) none (fun v => some (.val v, fr, m)) x
theorem retP_eq (x : Option AV) (fr : Fr) (m : Mem) : retP x fr m = match x with | some v => some (.val v, fr, m) | none => none := by cases x <;> rfl
end AM

/- The interpreter as the kernel likes it: operations, code, calls. -/
namespace AM
open Go

noncomputable def optK {α R : Type} (d : R) (f : α → R) (x : Option α) : R := Option.rec (motive := fun _ => R) d f x
abbrev OpF := Tys → Rec → Option Nat → List AV → Fr → Mem → Option (OpR × Fr × Mem)
noncomputable def slow (op : AOp) : OpF := fun T rec rd s fr m => opRun T rec rd s op fr m
noncomputable def storeK (size : Nat) (a v : AV) (m : Mem) : Option Mem :=
  asPtr a none fun o g off => bif Nat.beq v.cells.length size then
    rowK m o none fun r => bif !r.ro && Nat.beq g r.gen && v.cells.all AV.one then
      optK none (fun cs => some (m.setK o (.row { r with cells := cs }))) (splice r.cells off v.cells)
    else none
  else none
theorem storeK_eq (size : Nat) (a v : AV) (m : Mem) : storeK size a v m = storeA size a v m := by
  cases a <;> try rfl
  rename_i o g off
  show (bif Nat.beq v.cells.length size then _ else none) = _
  simp only [storeA]
  congr 1
  unfold rowK Mem.write
  rw [Mem.getK_eq]
  cases m.get o with
  | none => rfl
  | some x =>
    cases x <;> try rfl
    rename_i r
    show (bif !r.ro && g.beq r.gen && v.cells.all AV.one then _ else none) = _
    simp only
    congr 1
    cases splice r.cells off v.cells with
    | none => rfl
    | some cs => show some (m.setK o _) = _; rw [Mem.setK_eq]
noncomputable def loadK (agg : Bool) (size : Nat) (a : AV) (m : Mem) : Option AV :=
  asPtr a none fun o g off => bif agg then optK none (fun cs => some (.agg cs)) (readK m o g off size) else read1K m o g off
theorem at_take (l : List AV) (n : Nat) : (match takeD (dropD l n) 1 with | some cs => wordOf false cs | none => none) = at? l n := by
  rw [dropD_eq, at?_eq]
  induction l generalizing n with
  | nil => simp [takeD]
  | cons v l ih => cases n with
    | zero => simp [takeD, wordOf]
    | succ n => simpa using ih n
theorem loadK_eq (agg : Bool) (size : Nat) (a : AV) (m : Mem) : loadK agg size a m = loadA agg size a m := by
  cases a <;> try rfl
  rename_i o g off
  cases agg with
  | true =>
    show optK none (fun cs => some (AV.agg cs)) (readK m o g off size) = _
    rw [readK_eq]
    simp only [loadA, cond_true]
    cases m.read o g off size <;> rfl
  | false =>
    show read1K m o g off = _
    simp only [loadA, cond_false]
    unfold read1K rowK Mem.read
    rw [Mem.getK_eq]
    cases m.get o with
    | none => rfl
    | some x =>
      cases x <;> try rfl
      rename_i r
      show (bif Nat.beq g r.gen then atK r.cells off else none) = _
      cases hg : Nat.beq g r.gen
      · simp [hg]
      · simp only [cond_true, hg, atK_eq]
        exact (at_take r.cells off).symm
noncomputable def callK (rec : Rec) (f : AV) (args : List AV) (m : Mem) : Option (OpR × Mem) :=
  asFn f (callV rec f args m) fun f captured =>
    optK none (fun p => Res.casesOn (motive := fun _ => Option (OpR × Mem)) p.1 (fun _ _ => none) (fun o _ => Out.casesOn (motive := fun _ => Option (OpR × Mem)) o (fun v => some (.val v, p.2)) (fun v => some (.panic v, p.2))))
      (rec (.call f (args ++ captured) none) m)
theorem callK_eq (rec : Rec) (f : AV) (args : List AV) (m : Mem) : callK rec f args m = callV rec f args m := by
  cases f <;> try rfl
  rename_i f c
  simp only [callV]
  cases h : rec (.call f (args ++ c) none) m with
  | none => simp only [callK, asFn, h]; rfl
  | some p =>
    obtain ⟨r, m1⟩ := p
    cases r with
    | fr e fr => simp only [callK, asFn, h]; rfl
    | out o did => cases o <;> simp only [callK, asFn, h] <;> rfl
noncomputable def addrK (es : Nat) (x i : AV) : Option AV :=
  asSlc x none fun o g off _ es' len _ => asInt i none fun _ i => bif leI 0 i && ltI i (.ofNat len) && Nat.beq es es' then some (.ptr o g (off + i.toNat * es')) else none
theorem addrK_eq (T : Tys) (es : Nat) (s vs : List AV) (x i : AX) : addrK es (ev s vs x) (ev s vs i) = pureOp T s vs (.iaddr es x i) := by
  simp only [pureOp]
  generalize ev s vs x = a
  generalize ev s vs i = b
  cases a <;> try rfl
  cases b <;> try rfl
  rename_i o g off alt es' len cap k n
  show (bif leI 0 n && ltI n (.ofNat len) && Nat.beq es es' then _ else none) = _
  rw [leI_eq, ltI_eq, nbeq]
  simp only [Int.ofNat_eq_natCast]
  by_cases h1 : 0 ≤ n <;> by_cases h2 : n < len <;> by_cases h3 : es = es' <;> simp [h1, h2, h3]
noncomputable def lenK (x : AV) : Option AV := asSlc x (match x with | .nilSlc => some (.int .i64 0) | _ => none) fun _ _ _ _ _ n _ => some (.int .i64 n)
noncomputable def retM (x : Option (AV × Mem)) (fr : Fr) : Option (OpR × Fr × Mem) := optK none (fun p => some (.val p.1, fr, p.2)) x
noncomputable def opK (op : AOp) : OpF := AOp.casesOn (motive := fun _ => OpF) op
  (fun x _ _ _ s fr m => some (.val (evK s fr.vars x), fr, m))                                                                        -- mov
  (fun c a b _ _ _ s fr m => asBool (evK s fr.vars c) none fun c => some (.val (bif c then evK s fr.vars a else evK s fr.vars b), fr, m))   -- pick
  (fun z ps => slow (.build z ps))
  (fun x => slow (.nilck x))
  (fun op t x y T _ _ s fr m => retP (binK T op t (evK s fr.vars x) (evK s fr.vars y)) fr m)                                          -- bin
  (fun op x _ _ _ s fr m => retP (unV op (evK s fr.vars x)) fr m)                                                                     -- un
  (fun k x _ _ _ s fr m => asInt (evK s fr.vars x) none fun _ n => some (.val (.int k (wrapK k n)), fr, m))                           -- conv
  (fun x => slow (.sconv x))
  (fun t x _ _ _ s fr m => some (.val (.iface t (evK s fr.vars x)), fr, m))                                                           -- iface
  (fun f c _ _ _ s fr m => some (.val (.fn f (evsK s fr.vars c)), fr, m))                                                             -- fnv
  (fun x lo hi => slow (.sliceS x lo hi))
  (fun es x lo hi _ _ _ s fr m => retP (sliceRow es (evK s fr.vars x) (evo s fr.vars lo) (evo s fr.vars hi)) fr m)                    -- sliceV
  (fun off x _ _ _ s fr m => asPtr (evK s fr.vars x) none fun o g b => some (.val (.ptr o g (b + off)), fr, m))                       -- faddr
  (fun off size agg x T rec rd s fr m => bif agg then slow (.fld off size true x) T rec rd s fr m else asAgg (evK s fr.vars x) none fun cs => retP (atK cs off) fr m)   -- fld
  (fun es x i _ _ _ s fr m => retP (addrK es (evK s fr.vars x) (evK s fr.vars i)) fr m)                                               -- iaddr
  (fun x i => slow (.idx x i))
  (fun x i _ _ _ s fr m => asTup (evK s fr.vars x) none fun l => retP (atK l i) fr m)                                                 -- ext
  (fun t ok z x _ _ _ s fr m => retP (tassertV t ok z (evK s fr.vars x)) fr m)                                                        -- tassert
  (fun x _ _ _ s fr m => asStr (evK s fr.vars x) none fun b => some (.val (.int .i64 b.size), fr, m))                                 -- lenS
  (fun x _ _ _ s fr m => retP (lenK (evK s fr.vars x)) fr m)                                                                          -- lenV
  (fun x y => slow (.mn x y)) (fun x y => slow (.mx x y))
  (fun agg size x _ _ _ s fr m => retP (loadK agg size (evK s fr.vars x) m) fr m)                                                     -- load
  (fun x => slow (.lenM x)) (fun kt ok z a k => slow (.lookup kt ok z a k)) (fun x => slow (.b2s x))
  (fun e z _ _ _ _ fr m => some (.val (.ptr m.next 0 0), fr, m.pushK (.row { cells := z, elem := e, gen := 0, ro := false })))        -- alloc
  (fun e x => slow (.box e x)) (fun e es n z ps => slow (.mkslc e es n z ps)) (fun e es b z l c => slow (.make e es b z l c)) (slow .mkmap) (fun e x => slow (.s2b e x))
  (fun size a x _ _ _ s fr m => optK none (fun m => some (.val .und, fr, m)) (storeK size (evK s fr.vars a) (evK s fr.vars x) m))   -- store
  (fun kt a k v => slow (.put kt a k v)) (fun e es b x y => slow (.append e es b x y)) (fun es x y => slow (.copy es x y)) (fun es z x => slow (.clr es z x)) (fun x => slow (.mark x))
  (fun f as _ rec _ s fr m => optK none (fun p => some (p.1, fr, p.2)) (callK rec (evK s fr.vars f) (evsK s fr.vars as) m))   -- call
  (slow .recov) (fun f as => slow (.defer f as)) (fun x => slow (.pan x))
theorem opK_eq (op : AOp) (T : Tys) (rec : Rec) (rd : Option Nat) (s : List AV) (fr : Fr) (m : Mem) : opK op T rec rd s fr m = opRun T rec rd s op fr m := by
  have rp : ∀ x : Option AV, retP x fr m = x.map fun v => (.val v, fr, m) := fun x => by cases x <;> rfl
  cases op <;> try rfl
  case mov x => show some (OpR.val (evK s fr.vars x), fr, m) = _; rw [evK_eq]; rfl
  case pick c a b =>
    rw [opRun_pure rfl]
    simp only [opK, evK_eq, pureOp]
    cases ev s fr.vars c <;> rfl
  case bin op t x y => rw [opRun_pure rfl]; show retP _ fr m = _; rw [rp, binK_eq, evK_eq, evK_eq]; rfl
  case un op x => rw [opRun_pure rfl]; show retP _ fr m = _; rw [rp, evK_eq]; rfl
  case conv k x =>
    rw [opRun_pure rfl]
    simp only [opK, evK_eq, pureOp]
    cases ev s fr.vars x <;> try rfl
    show some (OpR.val (.int k (wrapK k _)), fr, m) = _
    rw [wrapK_eq]; rfl
  case iface t x => show some (OpR.val (.iface t (evK s fr.vars x)), fr, m) = _; rw [evK_eq]; rfl
  case fnv f c => show some (OpR.val (.fn f (evsK s fr.vars c)), fr, m) = _; rw [evsK_eq]; rfl
  case sliceV es x lo hi => rw [opRun_pure rfl]; show retP _ fr m = _; rw [rp, evK_eq]; rfl
  case faddr off x =>
    rw [opRun_pure rfl]
    simp only [opK, evK_eq, pureOp]
    cases ev s fr.vars x <;> rfl
  case fld off size agg x =>
    cases agg with
    | true => rfl
    | false =>
      rw [opRun_pure rfl]
      simp only [opK, evK_eq, pureOp, cond_false]
      cases ev s fr.vars x <;> try rfl
      show retP (atK _ off) fr m = _
      rw [rp, atK_eq]
  case iaddr es x i => rw [opRun_pure rfl]; show retP _ fr m = _; rw [rp, evK_eq, evK_eq, addrK_eq T]
  case ext x i =>
    rw [opRun_pure rfl]
    simp only [opK, evK_eq, pureOp]
    cases ev s fr.vars x <;> try rfl
    show retP (atK _ i) fr m = _
    rw [rp, atK_eq]
  case tassert t ok z x => rw [opRun_pure rfl]; show retP _ fr m = _; rw [rp, evK_eq]; rfl
  case lenS x =>
    rw [opRun_pure rfl]
    simp only [opK, evK_eq, pureOp]
    cases ev s fr.vars x <;> rfl
  case lenV x =>
    rw [opRun_pure rfl]
    show retP _ fr m = _
    rw [rp, evK_eq]
    simp only [pureOp]
    cases ev s fr.vars x <;> rfl
  case load agg size x => rw [opRun_read rfl]; show retP _ fr m = _; rw [rp, loadK_eq, evK_eq]; rfl
  case alloc e z => show some (OpR.val (.ptr m.next 0 0), fr, m.pushK _) = _; rw [Mem.pushK_eq]; rfl
  case store size a x =>
    show optK none (fun m => some (OpR.val .und, fr, m)) (storeK size (evK s fr.vars a) (evK s fr.vars x) m) = _
    rw [storeK_eq, evK_eq, evK_eq]
    simp only [opRun, cls, effOp]
    cases storeA size (ev s fr.vars a) (ev s fr.vars x) m <;> rfl
  case call f as =>
    show optK none (fun p => some (p.1, fr, p.2)) (callK rec (evK s fr.vars f) (evsK s fr.vars as) m) = _
    rw [callK_eq, evK_eq, evsK_eq]
    simp only [opRun]
    cases callV rec (ev s fr.vars f) (evs s fr.vars as) m <;> rfl
noncomputable def wantsK (s : List AV) (o : AOper) : Bool := optK true (fun p => asBool (nthK s p.1) false fun b => b == p.2) o.guard
theorem wantsK_eq (s : List AV) (o : AOper) : wantsK s o = wants s o := by
  unfold wantsK wants
  cases o.guard with
  | none => rfl
  | some p =>
    show asBool (nthK s p.1) false _ = _
    rw [nthK_eq]
    simp only
    cases nth s p.1 <;> rfl
noncomputable def putK (fr : Fr) (d : Option Nat) (v : AV) : Fr := optK fr (fun d => { fr with vars := updK fr.vars d v }) d
theorem putK_eq (fr : Fr) (d : Option Nat) (v : AV) : putK fr d v = fr.put d v := by
  cases d with
  | none => rfl
  | some d => show ({ fr with vars := updK fr.vars d v } : Fr) = _; rw [updK_eq]; rfl
noncomputable def bindK (x : Option (OpR × Fr × Mem)) (k : AV → Fr → Mem → Option (Ex × Fr × Mem)) (p : AV → Fr → Mem → Option (Ex × Fr × Mem)) : Option (Ex × Fr × Mem) :=
  optK none (fun q => OpR.casesOn (motive := fun _ => Option (Ex × Fr × Mem)) q.1 (fun v => k v q.2.1 q.2.2) (fun v => p v q.2.1 q.2.2)) x
noncomputable def opsK (T : Tys) (rec : Rec) (rd : Option Nat) (l : List AOper) : List AV → Fr → Mem → Option (Ex × Fr × Mem) :=
  List.rec (motive := fun _ => List AV → Fr → Mem → Option (Ex × Fr × Mem)) (fun _ fr m => some (.normal, fr, m))
    (fun o _ ih s fr m => bif wantsK s o then bindK (opK o.op T rec rd s fr m) (fun v fr m => ih (v :: s) (putK fr o.dst v) m) (fun v fr m => some (.panic v, fr, m)) else ih (.und :: s) (putK fr o.dst .und) m) l
theorem opsK_eq (T : Tys) (rec : Rec) (rd : Option Nat) : ∀ (l : List AOper) (s : List AV) (fr : Fr) (m : Mem), opsK T rec rd l s fr m = opsRun T rec rd l s fr m
  | [], _, _, _ => rfl
  | o :: l, s, fr, m => by
    show (bif wantsK s o then bindK (opK o.op T rec rd s fr m) (fun v fr m => opsK T rec rd l (v :: s) (putK fr o.dst v) m) (fun v fr m => some (.panic v, fr, m)) else opsK T rec rd l (.und :: s) (putK fr o.dst .und) m) = _
    simp only [opsRun, wantsK_eq, opK_eq, putK_eq, opsK_eq T rec rd l]
    congr 1
    cases opRun T rec rd s o.op fr m with
    | none => rfl
    | some q => obtain ⟨r, fr1, m1⟩ := q; cases r <;> rfl
noncomputable def readOpK (op : AOp) : Tys → List AV → List AV → Mem → Option AV := AOp.casesOn (motive := fun _ => Tys → List AV → List AV → Mem → Option AV) op
  (fun _ _ _ _ _ => none) (fun _ _ _ _ _ _ _ => none) (fun _ _ _ _ _ _ => none) (fun _ _ _ _ _ => none) (fun _ _ _ _ _ _ _ _ => none) (fun _ _ _ _ _ _ => none) (fun _ _ _ _ _ _ => none) (fun _ _ _ _ _ => none) (fun _ _ _ _ _ _ => none) (fun _ _ _ _ _ _ => none)
  (fun _ _ _ _ _ _ _ => none) (fun _ _ _ _ _ _ _ _ => none) (fun _ _ _ _ _ _ => none) (fun _ _ _ _ _ _ _ _ => none) (fun _ _ _ _ _ _ _ => none) (fun _ _ _ _ _ _ => none) (fun _ _ _ _ _ _ => none) (fun _ _ _ _ _ _ _ _ => none) (fun _ _ _ _ _ => none) (fun _ _ _ _ _ => none) (fun _ _ _ _ _ _ => none) (fun _ _ _ _ _ _ => none)
  (fun agg size x _ s vs m => loadK agg size (evK s vs x) m)
  (fun x T s vs m => readOp T s vs (.lenM x) m) (fun kt ok z a k T s vs m => readOp T s vs (.lookup kt ok z a k) m) (fun x T s vs m => readOp T s vs (.b2s x) m)
  (fun _ _ _ _ _ _ => none) (fun _ _ _ _ _ _ => none) (fun _ _ _ _ _ _ _ _ _ => none) (fun _ _ _ _ _ _ _ _ _ _ => none) (fun _ _ _ _ => none) (fun _ _ _ _ _ _ => none)
  (fun _ _ _ _ _ _ _ => none) (fun _ _ _ _ _ _ _ _ => none) (fun _ _ _ _ _ _ _ _ _ => none) (fun _ _ _ _ _ _ _ => none) (fun _ _ _ _ _ _ _ => none) (fun _ _ _ _ _ => none) (fun _ _ _ _ _ _ => none) (fun _ _ _ _ => none) (fun _ _ _ _ _ _ => none) (fun _ _ _ _ _ => none)
theorem readOpK_eq (op : AOp) (T : Tys) (s vs : List AV) (m : Mem) : readOpK op T s vs m = readOp T s vs op m := by
  cases op <;> try rfl
  case load agg size x => show loadK agg size (evK s vs x) m = _; rw [loadK_eq, evK_eq]; rfl
noncomputable def sameAtK (T : Tys) (s vs : List AV) (op : AOp) (v : AV) (st : List (Nat × Mem)) : List Nat → Bool :=
  fun l => List.rec (motive := fun _ => Bool) true (fun b _ ih => optK true (fun m => optK false (fun u => AV.same u v) (readOpK op T s vs m)) (getM st b) && ih) l
theorem sameAtK_eq (T : Tys) (s vs : List AV) (op : AOp) (v : AV) (st : List (Nat × Mem)) : ∀ l, sameAtK T s vs op v st l = sameAt T s vs op v st l
  | [] => rfl
  | b :: l => by
    show (optK true (fun m => optK false (fun u => AV.same u v) (readOpK op T s vs m)) (getM st b) && sameAtK T s vs op v st l) = _
    simp only [sameAt, readOpK_eq]
    rw [sameAtK_eq T s vs op v st l]
    congr 1
    cases getM st b with
    | none => rfl
    | some m =>
      show optK false _ (readOp T s vs op m) = _
      simp only
      cases readOp T s vs op m <;> rfl
noncomputable def planK (T : Tys) (all : List AOper) (s vs : List AV) (n : Nat) (st : List (Nat × Mem)) : Plan → Bool :=
  fun p => List.rec (motive := fun _ => Bool) true (fun q _ ih => (bif Nat.ble n q.1 then true else optK true (fun o => (fun s' => bif wantsK s' o then sameAtK T s' vs o.op (nthK s (n - 1 - q.1)) st q.2 else true) (dropK s (n - q.1))) (at? all q.1)) && ih) p
theorem planK_eq (T : Tys) (all : List AOper) (s vs : List AV) (n : Nat) (st : List (Nat × Mem)) : ∀ p, planK T all s vs n st p = checkPlan T all s vs n st p
  | [] => rfl
  | (i, bs) :: p => by
    show ((bif Nat.ble n i then true else optK true (fun o => (fun s' => bif wantsK s' o then sameAtK T s' vs o.op (nthK s (n - 1 - i)) st bs else true) (dropK s (n - i))) (at? all i)) && planK T all s vs n st p) = _
    simp only [checkPlan, wantsK_eq, sameAtK_eq, dropK_eq, nthK_eq]
    rw [planK_eq T all s vs n st p]
    congr 1
    congr 1
    cases at? all i <;> rfl
noncomputable def noteK (op : AOp) (i : Nat) (m : Mem) (st : List (Nat × Mem)) : List (Nat × Mem) := Cls.casesOn (motive := fun _ => List (Nat × Mem)) (cls op) st st st ((i, m) :: st)
theorem noteK_eq (op : AOp) (i : Nat) (m : Mem) (st : List (Nat × Mem)) : noteK op i m st = match cls op with | .eff => (i, m) :: st | _ => st := by
  unfold noteK
  cases cls op <;> rfl
noncomputable def drawK (T : Tys) (rec : Rec) (rd : Option Nat) (all : List AOper) (ancs : List Nat) (plan : Plan) (vs : List AV) (l : List AOper) : Nat → List (Nat × Mem) → List AV → Fr → Mem → Option (Ex × Fr × Mem) :=
  List.rec (motive := fun _ => Nat → List (Nat × Mem) → List AV → Fr → Mem → Option (Ex × Fr × Mem)) (fun n st s fr m => bif planK T all s vs n st plan then some (.normal, fr, m) else none)
    (fun o rest ih i st s fr m => bif wantsK s o then
      bindK (opK o.op T rec rd s fr m) (fun v fr m => ih (i + 1) (noteK o.op (i + 1) m st) (v :: s) (putK fr o.dst v) m)
        (fun v fr' m' => bif planK T all s vs i st plan && idle T ancs plan st i (i + 1) rest (.und :: s) fr.vars m then some (.panic v, { fr' with vars := forget fr'.vars all }, m') else none)
      else ih (i + 1) (noteK o.op (i + 1) m st) (.und :: s) (putK fr o.dst .und) m) l
theorem drawK_eq (T : Tys) (rec : Rec) (rd : Option Nat) (all : List AOper) (ancs : List Nat) (plan : Plan) (vs : List AV) : ∀ (l : List AOper) (n : Nat) (st : List (Nat × Mem)) (s : List AV) (fr : Fr) (m : Mem), drawK T rec rd all ancs plan vs l n st s fr m = drawRun T rec rd all ancs plan vs n l st s fr m
  | [], n, st, s, fr, m => by
    show (bif planK T all s vs n st plan then some (Ex.normal, fr, m) else none) = _
    rw [planK_eq]; rfl
  | o :: l, i, st, s, fr, m => by
    show (bif wantsK s o then bindK (opK o.op T rec rd s fr m) (fun v fr m => drawK T rec rd all ancs plan vs l (i + 1) (noteK o.op (i + 1) m st) (v :: s) (putK fr o.dst v) m)
        (fun v fr' m' => bif planK T all s vs i st plan && idle T ancs plan st i (i + 1) l (.und :: s) fr.vars m then some (.panic v, { fr' with vars := forget fr'.vars all }, m') else none)
      else drawK T rec rd all ancs plan vs l (i + 1) (noteK o.op (i + 1) m st) (.und :: s) (putK fr o.dst .und) m) = _
    simp only [drawRun, wantsK_eq, opK_eq, putK_eq, drawK_eq T rec rd all ancs plan vs l, planK_eq, noteK_eq]
    congr 1
    cases opRun T rec rd s o.op fr m with
    | none => rfl
    | some q => obtain ⟨r, fr1, m1⟩ := q; cases r <;> rfl
noncomputable def seqK (x : Option (Ex × Fr × Mem)) (k : Fr → Mem → Option (Ex × Fr × Mem)) : Option (Ex × Fr × Mem) :=
  optK none (fun q => Ex.casesOn (motive := fun _ => Option (Ex × Fr × Mem)) q.1 (k q.2.1 q.2.2) (fun _ => some q) (some q) (fun _ => some q)) x
noncomputable def blockK (id : Nat) (x : Option (Ex × Fr × Mem)) : Option (Ex × Fr × Mem) :=
  optK none (fun q => Ex.casesOn (motive := fun _ => Option (Ex × Fr × Mem)) q.1 (some q) (fun j => some (bif Nat.beq j id then Ex.normal else Ex.exit j, q.2)) (some q) (fun _ => some q)) x
noncomputable def frK (x : Option (Res × Mem)) : Option (Ex × Fr × Mem) :=
  optK none (fun p => Res.casesOn (motive := fun _ => Option (Ex × Fr × Mem)) p.1 (fun e fr => some (e, fr, p.2)) (fun _ _ => none)) x
noncomputable def codeK (T : Tys) (rec : Rec) (rd : Option Nat) (c : ACode) : Fr → Mem → Option (Ex × Fr × Mem) :=
  ACode.rec (motive := fun _ => Fr → Mem → Option (Ex × Fr × Mem)) (fun fr m => some (.normal, fr, m)) (fun ops fr m => opsK T rec rd ops [] fr m)
    (fun ops ancs plan fr m => drawK T rec rd ops ancs plan fr.vars ops 0 [(0, m)] [] fr m)
    (fun _ _ ia ib fr m => seqK (ia fr m) ib)
    (fun x _ _ ia ib fr m => asBool (evK [] fr.vars x) none fun c => bif c then ia fr m else ib fr m)
    (fun id _ ib fr m => blockK id (ib fr m))
    (fun b _ fr m => frK (rec (.loop b fr rd) m))
    (fun f params a b _ _ fr m => codeRun T rec rd (.range f params a b) fr m)
    (fun id fr m => some (.exit id, fr, m)) (fun fr m => some (.ret, fr, m)) (fun _ _ => none) c
theorem codeK_eq (T : Tys) (rec : Rec) (rd : Option Nat) : ∀ (c : ACode) (fr : Fr) (m : Mem), codeK T rec rd c fr m = codeRun T rec rd c fr m := by
  intro c
  induction c with
  | skip => intro fr m; rfl
  | exit id => intro fr m; rfl
  | ret => intro fr m; rfl
  | bad => intro fr m; rfl
  | range f params a b _ _ => intro fr m; rfl
  | reg ops => intro fr m; exact opsK_eq T rec rd ops [] fr m
  | draw ops ancs plan => intro fr m; exact drawK_eq T rec rd ops ancs plan fr.vars ops 0 _ _ fr m
  | seq a b iha ihb =>
    intro fr m
    show seqK (codeK T rec rd a fr m) (codeK T rec rd b) = _
    rw [iha, show codeK T rec rd b = codeRun T rec rd b from funext fun fr => funext fun m => ihb fr m]
    cases h : codeRun T rec rd a fr m with
    | none => simp only [codeRun, h]; rfl
    | some q => obtain ⟨e, fr1, m1⟩ := q; cases e <;> simp only [codeRun, h] <;> rfl
  | cond x a b iha ihb =>
    intro fr m
    show asBool (evK [] fr.vars x) none (fun c => bif c then codeK T rec rd a fr m else codeK T rec rd b fr m) = _
    rw [evK_eq, iha, ihb]
    simp only [codeRun]
    cases ev [] fr.vars x <;> rfl
  | block id b ih =>
    intro fr m
    show blockK id (codeK T rec rd b fr m) = _
    rw [ih]
    cases h : codeRun T rec rd b fr m with
    | none => simp only [codeRun, h]; rfl
    | some q => obtain ⟨e, fr1, m1⟩ := q; cases e <;> simp only [codeRun, h] <;> rfl
  | loop b _ =>
    intro fr m
    show frK (rec (.loop b fr rd) m) = _
    cases h : rec (.loop b fr rd) m with
    | none => simp only [codeRun, h]; rfl
    | some p => obtain ⟨r, m1⟩ := p; cases r <;> simp only [codeRun, h] <;> rfl
noncomputable def finK (rec : Rec) (a : AFn) (x : Option (Ex × Fr × Mem)) : Option (Res × Mem) :=
  optK none (fun q =>
    (fun ok => Ex.casesOn (motive := fun _ => Option (Res × Mem)) q.1 ok (fun _ => none) ok (fun v =>
      match unwindA rec q.2.1.defers (some v) q.2.2 with
      | some (none, m) => match readRes q.2.1.vars m false a.results with
        | some vs => some (.out (.ret (oneOrTup vs)) q.2.1.did, m)
        | none => none
      | some (some v, m) => some (.out (.panic v) q.2.1.did, m)
      | none => none))
    (match unwindA rec q.2.1.defers none q.2.2 with
      | some (none, m) => match readRes q.2.1.vars m true a.results with
        | some vs => some (.out (.ret (oneOrTup vs)) q.2.1.did, m)
        | none => none
      | _ => none)) x
noncomputable def pickK (args : List AV) (l : List Nat) : List AV := List.rec (motive := fun _ => List AV) [] (fun t _ ih => nthK args t :: ih) l
theorem pickK_eq (args : List AV) : ∀ l, pickK args l = pickVars args l
  | [] => rfl
  | t :: l => by
    show nthK args t :: pickK args l = _
    rw [nthK_eq, pickK_eq args l]; rfl
noncomputable def stepK (E : Env) (rec : Rec) : Rec := fun r => Req.casesOn (motive := fun _ => Mem → Option (Res × Mem)) r
  (fun c fr rd m => optK none (fun q => some (.fr q.1 q.2.1, q.2.2)) (codeK E.tys rec rd c fr m))
  (fun c fr rd m => optK none (fun q => Ex.casesOn (motive := fun _ => Option (Res × Mem)) q.1 (rec (.loop c q.2.1 rd) q.2.2) (fun _ => some (.fr q.1 q.2.1, q.2.2)) (some (.fr q.1 q.2.1, q.2.2)) (fun _ => some (.fr q.1 q.2.1, q.2.2))) (codeK E.tys rec rd c fr m))
  (fun f args pan m => optK none (fun a => finK rec a (codeK E.tys rec none a.code { vars := pickK args a.vt, defers := [], pan, did := false } m)) (E.fns.getK f))
theorem stepK_eq (E : Env) (rec : Rec) : stepK E rec = stepA E rec := by
  funext r m
  cases r with
  | code c fr rd =>
    show optK none (fun q => some (Res.fr q.1 q.2.1, q.2.2)) (codeK E.tys rec rd c fr m) = _
    rw [codeK_eq]
    cases h : codeRun E.tys rec rd c fr m with
    | none => simp only [stepA, h]; rfl
    | some q => simp only [stepA, h]; rfl
  | loop c fr rd =>
    have hk := codeK_eq E.tys rec rd c fr m
    cases h : codeRun E.tys rec rd c fr m with
    | none => rw [h] at hk; simp only [stepK, stepA, h, hk]; rfl
    | some q => rw [h] at hk; obtain ⟨e, fr1, m1⟩ := q; cases e <;> simp only [stepK, stepA, h, hk] <;> rfl
  | call f args pan =>
    have hg := Trie.getK_eq E.fns f
    cases ha : E.fns.get f with
    | none => rw [ha] at hg; simp only [stepK, stepA, ha, hg]; rfl
    | some a =>
      rw [ha] at hg
      have hk := codeK_eq E.tys rec none a.code { vars := pickK args a.vt, defers := [], pan, did := false } m
      rw [pickK_eq] at hk
      cases h : codeRun E.tys rec none a.code { vars := pickVars args a.vt, defers := [], pan, did := false } m with
      | none => rw [h] at hk; simp only [stepK, stepA, ha, hg, h, optK, hk, pickK_eq, finK]
      | some q => rw [h] at hk; obtain ⟨e, fr1, m1⟩ := q; cases e <;> simp only [stepK, stepA, ha, hg, h, optK, hk, pickK_eq, finK] <;> rfl
noncomputable def runK (E : Env) (n : Nat) : Rec := Nat.rec (motive := fun _ => Rec) (fun _ _ => none) (fun _ ih => stepK E ih) n
theorem runK_eq (E : Env) : ∀ n, runK E n = run E n
  | 0 => rfl
  | n + 1 => by
    show stepK E (runK E n) = _
    rw [stepK_eq, runK_eq E n]; rfl
end AM
