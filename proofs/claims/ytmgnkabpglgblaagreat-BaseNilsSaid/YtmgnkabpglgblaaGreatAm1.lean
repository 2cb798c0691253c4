/- An interpreter of the model, and that it is right: part 2 of 3. -/
import Derived.Test.YtmgnkabpglgblaaGreatAm0
import Derived.Deep.AppendSrc
import Derived.Calls
/- append, and what writes into rows. -/
namespace AM
open Go

theorem growBy_le (newLen : Nat) : ∀ (rounds c : Nat), 256 ≤ c → c ≤ 2 * newLen → Builtin.growBy newLen rounds c ≤ 2 * newLen
  | 0, c, _, h => h
  | r + 1, c, h0, h => by
    simp only [Builtin.growBy]
    split
    · exact h
    · exact growBy_le newLen r _ (by omega) (by omega)
theorem nextslicecap_le {need cap : Nat} (h : cap < need) : Builtin.nextslicecap need cap ≤ 2 * need := by
  unfold Builtin.nextslicecap
  split
  · omega
  · split
    · omega
    · exact growBy_le need 4 cap (by omega) (by omega)
theorem read_length {m : Mem} {o g off n : Nat} {cs : List AV} (h : m.read o g off n = some cs) : cs.length = n := by
  unfold Mem.read at h
  split at h
  · rename_i r hr
    cases hg : g.beq r.gen
    · simp [hg] at h
    · simp only [hg, cond_true] at h
      obtain ⟨h1, h2⟩ := (takeD_eq _ _ _).1 h
      subst h2; simp [h1]
  · simp at h
section
variable {P : Program} {T : Tys} {ρ : Gh}
theorem loadSlc {m : Mem} {w : World} (H : MR T ρ m w) {o g off alt es len cap n : Nat} {y : Value} (hy : VR ρ (.slc o g off alt es len cap) y) (hn : n ≤ len) {cs : List AV} (h : m.read o g off (n * es) = some cs) :
    ∃ a c arr, y = .slice (some a) len c ∧ (∀ w' : World, w'.heap = w.heap → (loadCells a (n * es)).run P w' = .ok arr w') ∧ VRs ρ cs arr.toList := by
  obtain ⟨l, c, hl, hes, hlc, hcc, hnn, ht, rfl⟩ := slcInv hy
  obtain ⟨arr, h1, h2⟩ := H.load' P h hl
  refine ⟨_, c, arr, rfl, ?_, h2⟩
  by_cases hc0 : c = 0
  · have : n = 0 := by omega
    subst this
    have h4 : ∀ (a : Addr) (w' : World), (loadCells a (0 * es)).run P w' = .ok #[] w' := by intro a w'; simp [loadCells, loadCellsFrom]
    intro w' hw'
    have h5 := h1 w' hw'
    rw [h4] at h5 ⊢
    exact h5
  · rw [if_neg hc0]; exact h1
theorem srcV_ok {m : Mem} {w : World} (H : MR T ρ m w) {es n : Nat} {y : AV} {y' : Value} (hy : VR ρ y y') {cs : List AV} (h : srcV es m y = some (cs, n)) :
    (∀ w' : World, (Builtin.lenOf y').run P w' = .ok n w') ∧ cs.length = n * es ∧ ∀ k, k ≤ n → ∃ arr, (∀ w' : World, w'.heap = w.heap → (Builtin.firstCells es k y').run P w' = .ok arr w') ∧ VRs ρ (cs.take (k * es)) arr.toList := by
  unfold srcV at h
  split at h
  · rename_i s
    by_cases he : es = 1
    · subst he
      simp only [nbeq, decide_true, cond_true, Option.some.injEq, Prod.mk.injEq] at h
      obtain ⟨rfl, rfl⟩ := h
      rw [hy.str_inv]
      refine ⟨fun _ => rfl, by simp, fun k hk => ⟨_, fun _ _ => rfl, ?_⟩⟩
      have e : ((s.extract 0 k).data.map fun (b : UInt8) => Value.int .u8 b.toNat).toList = (s.data.toList.take k).map fun (b : UInt8) => Value.int .u8 b.toNat := by
        rw [Array.toList_map]
        congr 1
        simp
      rw [e, Nat.mul_one, ← List.map_take]
      generalize s.data.toList.take k = l
      induction l with
      | nil => exact .nil
      | cons a l ih => exact .cons (.int _ _) ih
    · simp [nbeq, he] at h
  · simp only [Option.some.injEq, Prod.mk.injEq] at h
    obtain ⟨rfl, rfl⟩ := h
    cases hy
    exact ⟨fun _ => rfl, by simp, fun k hk => ⟨#[], by simp [Builtin.firstCells], by simpa using VRs.nil⟩⟩
  · rename_i o g off alt es' len cap
    by_cases he : es = es'
    · subst he
      simp only [nbeq, decide_true, cond_true] at h
      split at h <;> simp at h
      rename_i cs' hcs
      obtain ⟨rfl, rfl⟩ := h
      refine ⟨fun w' => ?_, read_length hcs, fun k hk => ?_⟩
      · obtain ⟨_, _, _, he, _⟩ := loadSlc (P := P) H hy (Nat.le_refl _) hcs
        rw [he]; rfl
      · have hk2 : m.read o g off (k * es) = some (cs'.take (k * es)) := by
          unfold Mem.read at hcs ⊢
          split at hcs
          · rename_i r hr
            cases hg : g.beq r.gen
            · simp [hg] at hcs
            · simp only [hg, cond_true] at hcs ⊢
              obtain ⟨h1, h2⟩ := (takeD_eq _ _ _).1 hcs
              have h3 : k * es ≤ len * es := Nat.mul_le_mul_right _ hk
              refine (takeD_eq _ _ _).2 ⟨by omega, ?_⟩
              rw [h2, List.take_take, Nat.min_eq_left h3]
          · simp at hcs
        obtain ⟨a, c, arr, rfl, h1, h2⟩ := loadSlc (P := P) H hy hk hk2
        exact ⟨arr, h1, h2⟩
    · simp [nbeq, he] at h
  · simp at h

/-- What an operation with an effect comes to. -/
structure EffR (T : Tys) (P : Program) (ρ : Gh) (s : Sem Value) (v : AV) (m' : Mem) (w : World) : Prop where
  go : ∃ v' w' ρ', s.run P w = .ok v' w' ∧ MR T ρ' m' w' ∧ Adv ρ w ρ' w' ∧ VR ρ' v v'
theorem zeroCells_length (z : Array Value) (n : Nat) : (Builtin.zeroCells z n).toList.length = n * z.size := by simp [Builtin.zeroCells]
theorem MR.heap {m : Mem} {w w' : World} (H : MR T ρ m w) (h : w'.heap = w.heap) : MR T ρ m w' :=
  ⟨H.dom, fun o g l hl => by rw [h]; exact H.inb o g l hl, H.sep, fun o x hx => (H.obj o x hx).keep (Gh.le.refl _) (fun _ _ _ => by rw [h]) (fun _ h => h), H.fresh⟩
theorem Adv.after {w w1 w' : World} {ρ' : Gh} (h : Adv ρ w1 ρ' w') (h1 : w1.heap = w.heap) (h2 : w1.os = w.os) (h3 : w1.tape = w.tape) (h4 : w1.output = w.output) : Adv ρ w ρ' w' :=
  ⟨h.le, by rw [← h1]; exact h.new, h.keep.os.trans h2, h.keep.tape.trans h3, h.keep.output.trans h4, by rw [← h1]; exact h.keep.size, by rw [← h1]; exact h.keep.block⟩
theorem src_ok {m : Mem} {w : World} (H : MR T ρ m w) {u : TypeId} (hu : (∃ e', P.underlying u = some (.slice e')) ∨ P.underlying u = some .string) {es n : Nat} {y : AV} {y' : Value} (hy : VR ρ y y') {cs : List AV} (h : srcV es m y = some (cs, n)) (hone : cs.all AV.one = true) :
    ∃ news, Src P es u y' n news w ∧ VRs ρ cs news := by
  obtain ⟨h1, h2, h3⟩ := srcV_ok (P := P) H hy h
  obtain ⟨arr, h4, h5⟩ := h3 n (Nat.le_refl _)
  rw [← h2, List.take_length] at h5
  exact ⟨arr.toList, ⟨hu, h1, h4 w rfl, h4 w.drew rfl, by rw [h5.length, h2], h5.ones hone⟩, h5⟩
/-- Cells are written in the row of an address. -/
theorem room_run {w w' : World} {t u ty e : TypeId} {i : TypeInfo} (ht : P.underlying t = some (.slice e)) (hi : P.info? e = some i) {b off sLen sCap : Nat} {x : Value} {n : Nat} {news : List Value} (hs : Src P i.size u x n news w)
    (hroom : sLen + n ≤ sCap) (hst : (storeCells ⟨b, off + sLen * i.size, none⟩ news).run P w = .ok () w') :
    (Builtin.append_ #[t, u] ty #[.slice (some ⟨b, off, none⟩) sLen sCap, x]).run P w = .ok (.slice (some ⟨b, off, none⟩) (sLen + n) sCap) w' := by
  rcases hs.kind with ⟨e', hk⟩ | hk <;> simp [Builtin.append_, run_underlying ht, run_underlying hk, Go.sizeOf, typeInfo, hi, hs.len, hroom, hs.cells, Addr.add_lit, hst]
theorem fits {n c b : Nat} (hc : c < n) (h : n * b * 2 ≤ most) : Builtin.nextslicecap n c * b ≤ 281474976710656 := by
  have h3 := nextslicecap_le hc
  have h4 : Builtin.nextslicecap n c * b ≤ 2 * n * b := Nat.mul_le_mul_right _ h3
  have h5 : 2 * n * b = n * b * 2 := by rw [Nat.mul_comm 2, Nat.mul_right_comm]
  have h6 : most = 281474976710656 := rfl
  omega
theorem storeNil {w : World} (a : Addr) : (storeCells a [] 0).run P w = .ok () w := by simp [storeCells]
/-- A row goes on in a new generation: in its block, or in a new one. -/
theorem MR.grow {m : Mem} {w w' : World} (H : MR T ρ m w) {o : Nat} {r : Row} (hr : m.get o = some (.row r)) {cs : List AV} {l : Loc} (hrw : l.rw = true)
    (hb : w.heap.size ≤ l.block ∧ l.block < w'.heap.size ∨ ∃ l0, ρ o r.gen = some l0 ∧ l0.block = l.block ∧ l0.rw = true)
    (hx : ∀ ρ', ρ.le ρ' → LocR ρ' cs false l w') (hro : r.ro = false) (hk : Keep ρ w w') (hblk : ∀ k, k < w.heap.size → k ≠ l.block → w'.heap[k]? = w.heap[k]?) :
    MR T (ρ.add o (r.gen + 1) l) (m.set o (.row { r with cells := cs, gen := r.gen + 1 })) w' ∧ Adv ρ w (ρ.add o (r.gen + 1) l) w' := by
  obtain ⟨h0, l1, hl1, hL⟩ := H.obj o _ hr
  have hnone : ρ o (r.gen + 1) = none := h0 _ (Nat.lt_succ_self _)
  have hle := Gh.le_add (ρ := ρ) l hnone
  have hrw1 : l1.rw = true := by rw [hL.rw, hro]; rfl
  have hsep : ∀ k g l', ρ k g = some l' → l'.block = l.block → k = o := by
    intro k g l' hl' hbb
    rcases hb with ⟨hb, _⟩ | ⟨l0, h1, h2, h3⟩
    · have := H.inb k g l' hl'
      omega
    · exact (H.sep _ _ _ _ _ _ h1 hl' h3 (by omega)).symm
  refine ⟨H.put o _ hle (fun k => Mem.get_set _ _ _ _) (Nat.le_refl _) (H.dom _ _ _ hl1) ?_ (fun k g hk => Gh.add_ne _ _ (by omega)) (fun k g l' hk' hl' => ?_) (fun k g l' hl' => ?_) (fun k g l1 k' g' l2 h1 h2 hr hbb => ?_), hle, fun k g l' hl' => ?_, hk⟩
  · refine ⟨fun g hg => ?_, l, Gh.add_same _ _ _ _, ?_⟩
    · rw [Gh.add_ne _ _ (by dsimp only at hg; omega)]; exact h0 g (by dsimp only at hg; omega)
    · have := hx _ hle
      rw [← hro] at this
      exact this
  · exact hblk _ (H.inb _ _ _ hl') fun hbb => hk' (hsep _ _ _ hl' hbb)
  · by_cases e : k = o ∧ g = r.gen + 1
    · obtain ⟨rfl, rfl⟩ := e
      rw [Gh.add_same] at hl'
      simp at hl'; subst hl'
      rcases hb with ⟨_, hb⟩ | ⟨l0, h1, h2, _⟩
      · exact hb
      · have := H.inb _ _ _ h1
        have := hk.size
        omega
    · rw [Gh.add_ne _ _ e] at hl'
      exact Nat.lt_of_lt_of_le (H.inb _ _ _ hl') hk.size
  · by_cases e1 : k = o ∧ g = r.gen + 1
    · by_cases e2 : k' = o ∧ g' = r.gen + 1
      · exact e1.1.trans e2.1.symm
      · obtain ⟨rfl, rfl⟩ := e1
        rw [Gh.add_same] at h1
        rw [Gh.add_ne _ _ e2] at h2
        simp at h1; subst h1
        exact (hsep _ _ _ h2 hbb.symm).symm
    · by_cases e2 : k' = o ∧ g' = r.gen + 1
      · obtain ⟨rfl, rfl⟩ := e2
        rw [Gh.add_same] at h2
        rw [Gh.add_ne _ _ e1] at h1
        simp at h2; subst h2
        exact hsep _ _ _ h1 hbb
      · rw [Gh.add_ne _ _ e1] at h1
        rw [Gh.add_ne _ _ e2] at h2
        exact H.sep _ _ _ _ _ _ h1 h2 hr hbb
  · by_cases e : k = o ∧ g = r.gen + 1
    · obtain ⟨rfl, rfl⟩ := e
      rw [Gh.add_same] at hl'
      simp at hl'; subst hl'
      refine .inr ⟨hrw, hb.imp (·.1) fun ⟨l0, h1, h2, h3⟩ => ⟨_, l0, h1, h3, h2⟩⟩
    · rw [Gh.add_ne _ _ e] at hl'; exact .inl hl'
theorem take_pre {α : Type} (a b : List α) (n : Nat) (h : a.length = n) : (a ++ b).take n = a := by subst h; simp
theorem append_ok (hT : TysOK P T) {m m' : Mem} {w : World} (H : MR T ρ m w) {t u ty e : TypeId} {te : Ty} (ht : P.underlying t = some (.slice e)) (hte : T.get e = some te)
    (hu : (∃ e', P.underlying u = some (.slice e')) ∨ P.underlying u = some .string) {x y v : AV} {x' y' : Value} (hx : VR ρ x x') (hy : VR ρ y y') (h : appendV e te.size te.bytes x y m = some (v, m')) :
    EffR T P ρ (Builtin.append_ #[t, u] ty #[x', y']) v m' w := by
  obtain ⟨i, z, hi, hsz, hby, hz, hz0⟩ := (hT e te hte).info
  have hzl : z.cells.size = te.size := by
    have := (hz0 (fun _ _ => none)).cells.length
    rw [(hT e te hte).len] at this; simpa using this
  rw [← hsz, ← hby] at h
  have hmax : IntKind.i64.max = 9223372036854775807 := rfl
  have hmost : most = 281474976710656 := rfl
  have hcutle : ∀ (need old : Nat), need ≤ grownCap w need old e := fun need old => Nat.le_add_right _ _
  unfold appendV at h
  split at h
  · simp at h
  rename_i cs n hsrc
  split at h
  · -- nil
    obtain rfl : x' = .slice none 0 0 := by cases hx; rfl
    by_cases hn : n = 0
    · subst hn
      simp only [nbeq, decide_true, cond_true, Option.some.injEq, Prod.mk.injEq] at h
      obtain ⟨rfl, rfl⟩ := h
      have hcs : cs = [] := by
        have := (srcV_ok (P := P) H hy hsrc).2.1
        simpa using this
      subst hcs
      obtain ⟨news, hs, hnews⟩ := src_ok H hu hy hsrc rfl
      refine ⟨_, w, ρ, ?_, H, .refl _ _, .nilSlc⟩
      rcases hs.kind with ⟨e', hk⟩ | hk <;> simp [Builtin.append_, run_underlying ht, run_underlying hk, Go.sizeOf, typeInfo, hi, hs.len, hs.cells]
    · simp only [nbeq, hn, decide_false, cond_false] at h
      cases hcond : (Nat.ble (n * i.bytes * 2) most && Nat.ble n most && cs.all AV.one)
      · simp [hcond] at h
      simp only [hcond, cond_true, Option.some.injEq, Prod.mk.injEq] at h
      obtain ⟨rfl, rfl⟩ := h
      simp only [Bool.and_eq_true, nble, decide_eq_true_eq] at hcond
      obtain ⟨⟨h1, h2⟩, hone⟩ := hcond
      obtain ⟨news, hs, hnews⟩ := src_ok H hu hy hsrc hone
      have hrun := run_append_grow_src (P := P) w t u ty e i z ht hi hz none 0 0 [] (by simp [Builtin.firstCells]) y' n news hs (by omega) (by omega) (fits (by omega) (by simpa using h1))
      rw [Nat.zero_add] at hrun
      have hcut := hcutle n 0
      generalize grownCap w n 0 e = newCap at hrun hcut
      have hlen := hnews.length
      have hnl := hs.newsLen
      have hrl := zeroCells_length z.cells (newCap - n)
      have hwd : w.drew.heap.size = w.heap.size := rfl
      obtain ⟨hM, hA, hl⟩ := (H.heap (w' := w.drew) rfl).var e i.size cs news (Builtin.zeroCells z.cells (newCap - n)).toList hnews
      have ew : World.push w.drew (.cells (news ++ (Builtin.zeroCells z.cells (newCap - n)).toList).toArray e) = w.drew.alloc (.cells (([] ++ news).toArray ++ Builtin.zeroCells z.cells (newCap - n)) e) := by
        unfold World.push World.alloc
        congr 3
        apply Array.ext'
        simp
      refine ⟨_, _, _, hrun, ew ▸ hM, (ew ▸ hA).after rfl rfl rfl rfl, ?_⟩
      have hsz2 : newCap * i.size = n * i.size + (newCap - n) * i.size := by rw [← Nat.add_mul]; congr 1; omega
      have hv := VR.slc (ρ := ρ.add m.next 0 _) (off := 0) (alt := 0) (es := i.size) (len := n) (cap := n) (c := newCap) hl rfl (Nat.le_refl _) hcut (by dsimp only; omega) (by dsimp only; rw [hrl, hzl, ← hsz]; omega)
      simpa using hv
  · -- a slice
    rename_i o g off alt es' len cap
    obtain ⟨l, c, hl, hes, hlc, hcc, hnn, htot, rfl⟩ := slcInv hx
    by_cases he : i.size = es'
    · subst he
      simp only [nbeq, decide_true, Bool.not_true, cond_false] at h
      by_cases hroom : len + n ≤ cap
      · simp only [nble, hroom, decide_true, cond_true] at h
        split at h <;> simp only [Option.some.injEq, Prod.mk.injEq, reduceCtorEq] at h
        rename_i m1 hw
        obtain ⟨rfl, rfl⟩ := h
        have hone : cs.all AV.one = true := by
          revert hw
          unfold Mem.write
          split
          · cases hb : cs.all AV.one <;> simp
          · simp
        obtain ⟨news, hs, hnews⟩ := src_ok H hu hy hsrc hone
        obtain ⟨w', hst, hM, hK⟩ := H.store P hw hl hnews
        have hst' : (storeCells ⟨l.block, (l.base + (if c = 0 then alt else off)) + len * i.size, none⟩ news).run P w = .ok () w' := by
          by_cases hc0 : c = 0
          · have hn0 : n = 0 := by omega
            have : news = [] := by
              have := hs.newsLen
              rw [hn0] at this; simpa using this
            subst this
            rw [storeNil] at hst ⊢
            exact hst
          · rw [if_neg hc0, Nat.add_assoc]; exact hst
        exact ⟨_, w', ρ, room_run ht hi hs (by omega) hst', hM, ⟨Gh.le.refl _, fun _ _ _ h => .inl h, hK⟩, .slc hl hes (by omega) hcc hnn htot⟩
      · have hnr : Nat.ble (len + n) cap = false := by simp [nble, hroom]
        simp only [hnr, cond_false] at h
        cases hcond : (decide (off = 0) && decide (alt = 0) && Nat.ble ((len + n) * i.bytes * 2) most && Nat.ble (len + n) most && cs.all AV.one)
        · simp [hcond] at h
        simp only [hcond, cond_true] at h
        split at h <;> try simp at h
        rename_i r hr
        cases hg : (!r.ro && decide (g = r.gen))
        · simp [hg] at h
        simp only [hg, cond_true] at h
        split at h <;> simp only [Option.some.injEq, Prod.mk.injEq, reduceCtorEq] at h
        rename_i old hold
        obtain ⟨rfl, rfl⟩ := h
        simp only [Bool.and_eq_true, nble, decide_eq_true_eq, Bool.not_eq_true'] at hcond hg
        obtain ⟨⟨⟨⟨rfl, rfl⟩, hb1⟩, hb2⟩, hone⟩ := hcond
        obtain ⟨hro, rfl⟩ := hg
        obtain ⟨hold1, hold2⟩ := (takeD_eq _ _ _).1 hold
        obtain ⟨news, hs, hnews⟩ := src_ok H hu hy hsrc hone
        obtain ⟨hgens, l2, hl2, hL⟩ := H.obj o _ hr
        obtain rfl : l = l2 := by simpa [hl] using hl2
        have hrw : l.rw = true := by rw [hL.rw, hro]; rfl
        rcases hL.at_ with ⟨_, h6⟩ | ⟨cc, ce, fz, h6, h7, h9, h8⟩
        · simp [hro] at h6
        obtain ⟨hb0, htc, hfz⟩ := h9 hro
        have hbl : l.block < w.heap.size := lt_of_some h6
        have hln : l.n = r.cells.length := hL.n
        have hlen := hnews.length
        have hnl := hs.newsLen
        have ha0 : (if c = 0 then 0 else 0 : Nat) = 0 := by split <;> rfl
        rw [hb0, ha0]
        have holdR : VRs ρ old (cc.toList.take (len * i.size)) := by
          rw [hold2]
          have := h8.take (len * i.size)
          rw [hb0, List.drop_zero, List.take_take, Nat.min_eq_left (by omega)] at this
          exact this
        have hol := holdR.length
        rw [hb0] at htot
        simp only [Nat.zero_add, Nat.add_zero] at htot
        have hmul : (len + n) * i.size = len * i.size + n * i.size := Nat.add_mul _ _ _
        have hall : VRs ρ (old ++ cs) (cc.toList.take (len * i.size) ++ news) := holdR.append hnews
        have hal := hall.length
        have hcl : (cc.toList.take (len * i.size)).length = len * i.size := by
          simp only [List.length_take, Array.length_toList]; omega
        by_cases hin : len + n ≤ c
        · -- the block has room
          have hle2 : (len + n) * i.size ≤ c * i.size := Nat.mul_le_mul_right _ hin
          have hst := run_storeCells (P := P) (b := l.block) news h6 (len * i.size) 0 (by omega) (thawed hfz) (hnews.ones hone)
          have hrun := room_run (ty := ty) (off := 0) (sLen := len) (sCap := c) (x := y') ht hi hs hin (by rw [Nat.zero_add]; exact hst)
          have hK : Keep ρ w (World.row w l.block (cc.toList.take (len * i.size + 0) ++ news ++ cc.toList.drop (len * i.size + 0 + news.length)).toArray ce fz) :=
            ⟨rfl, rfl, rfl, by simp, fun k hk hn => heap_row_ne (hn o _ l hl hrw) _ _ _⟩
          have hloc : ∀ ρ', ρ.le ρ' → LocR ρ' (old ++ cs) false { l with n := (len + n) * i.size } (World.row w l.block (cc.toList.take (len * i.size + 0) ++ news ++ cc.toList.drop (len * i.size + 0 + news.length)).toArray ce fz) := by
            intro ρ' hle
            refine ⟨?_, hrw, .inr ⟨_, ce, fz, heap_row hbl _ _ _, ?_, fun _ => ⟨hb0, ?_, ?_⟩, ?_⟩⟩
            · simp only [List.length_append] at hal ⊢; omega
            · simp; omega
            · simp; omega
            · refine hfz.imp id fun h => ?_
              simp; omega
            · refine cast (congrArg _ ?_) (hall.mono hle)
              dsimp only
              rw [hb0, List.drop_zero, Nat.add_zero]
              exact (take_pre _ _ _ (by simp only [List.length_append]; omega)).symm
          obtain ⟨hM, hA⟩ := H.grow hr (l := { l with n := (len + n) * i.size }) hrw (.inr ⟨l, hl, rfl, hrw⟩) hloc hro hK (fun k hk hne => heap_row_ne (fun h => hne h.symm) _ _ _)
          refine ⟨_, _, _, hrun, hM, hA, ?_⟩
          have hv := VR.slc (ρ := ρ.add o (r.gen + 1) _) (off := 0) (alt := 0) (es := i.size) (len := len + n) (cap := len + n) (c := c) (Gh.add_same ρ o (r.gen + 1) { l with n := (len + n) * i.size }) hes (Nat.le_refl _) hin (by dsimp only; omega) (by dsimp only; omega)
          simpa [hb0] using hv
        · have hfirst : (Builtin.firstCells i.size len (.slice (some ⟨l.block, 0, none⟩) len c)).run P w.drew = .ok (cc.toList.take (len * i.size)).toArray w.drew := by
            have := run_loadCells' (P := P) (w := w.drew) h6 0 (len * i.size) (by omega)
            simpa [Builtin.firstCells] using this
          have hrun := run_append_grow_src (P := P) w t u ty e i z ht hi hz (some ⟨l.block, 0, none⟩) len c (cc.toList.take (len * i.size)) hfirst y' n news hs (by omega) (by omega) (fits (by omega) hb1)
          have hcut := hcutle (len + n) c
          generalize grownCap w (len + n) c e = newCap at hrun hcut
          have hrl := zeroCells_length z.cells (newCap - (len + n))
          have hsz2 : newCap * i.size = (len + n) * i.size + (newCap - (len + n)) * i.size := by
            have h1 : newCap = (len + n) + (newCap - (len + n)) := by omega
            have h2 := congrArg (· * i.size) h1
            simpa only [Nat.add_mul] using h2
          have hK : Keep ρ w (w.drew.alloc (.cells ((cc.toList.take (len * i.size) ++ news).toArray ++ Builtin.zeroCells z.cells (newCap - (len + n))) e)) :=
            ⟨rfl, rfl, rfl, by show _ ≤ (w.heap.push _).size; rw [Array.size_push]; omega, fun k hk hn => heap_push_lt w _ hk⟩
          have h10 : (Builtin.zeroCells z.cells (newCap - (len + n))).size = (newCap - (len + n)) * i.size := by rw [hsz, ← hzl]; simpa using hrl
          have hloc : ∀ ρ', ρ.le ρ' → LocR ρ' (old ++ cs) false { block := w.heap.size, base := 0, n := (len + n) * i.size, total := newCap * i.size, es := i.size, rw := true } (w.drew.alloc (.cells ((cc.toList.take (len * i.size) ++ news).toArray ++ Builtin.zeroCells z.cells (newCap - (len + n))) e)) := by
            intro ρ' hle
            refine ⟨?_, rfl, .inr ⟨_, e, (0, 0), Array.getElem?_push_size, ?_, fun _ => ⟨rfl, ?_, ?_⟩, ?_⟩⟩
            · simp only [List.length_append] at hal ⊢; omega
            · simp only [Array.size_append, List.size_toArray, List.length_append, h10]; omega
            · simp only [Array.size_append, List.size_toArray, List.length_append, h10]; omega
            · exact .inl rfl
            · refine cast (congrArg _ ?_) (hall.mono hle)
              dsimp only
              rw [List.drop_zero, Array.toList_append]
              exact (take_pre _ _ _ (by simp only [List.length_append]; omega)).symm
          obtain ⟨hM, hA⟩ := H.grow hr (cs := old ++ cs) rfl (.inl ⟨Nat.le_refl _, by show _ < (w.heap.push _).size; rw [Array.size_push]; exact Nat.lt_succ_self _⟩) hloc hro hK (fun k hk hne => heap_push_lt w _ hk)
          refine ⟨_, _, _, hrun, hM, hA, ?_⟩
          have hv := VR.slc (ρ := ρ.add o (r.gen + 1) _) (off := 0) (alt := 0) (es := i.size) (len := len + n) (cap := len + n) (c := newCap) (Gh.add_same ρ o (r.gen + 1) { block := w.heap.size, base := 0, n := (len + n) * i.size, total := newCap * i.size, es := i.size, rw := true }) rfl (Nat.le_refl _) hcut (by dsimp only; omega) (by dsimp only; omega)
          simpa using hv
    · simp [nbeq, he] at h
  · simp at h
end
end AM

/- What writes into memory: store, put, copy, clear, mark. -/
namespace AM
open Go

section
variable {P : Program} {T : Tys} {ρ : Gh}
theorem EffR.keep {s : Sem Value} {v : AV} {m' : Mem} {w w' : World} {v' : Value} (h : s.run P w = .ok v' w') (H : MR T ρ m' w') (hk : Keep ρ w w') (hv : VR ρ v v') : EffR T P ρ s v m' w :=
  ⟨v', w', ρ, h, H, ⟨Gh.le.refl _, fun _ _ _ h => .inl h, hk⟩, hv⟩
theorem copy_ok (hT : TysOK P T) {m m' : Mem} {w : World} (H : MR T ρ m w) {t ty e : TypeId} {te : Ty} {ts : Array TypeId} (hts : ts[0]? = some t) (ht : P.underlying t = some (.slice e)) (hte : T.get e = some te)
    {x y v : AV} {x' y' : Value} (hx : VR ρ x x') (hy : VR ρ y y') (h : copyV te.size x y m = some (v, m')) :
    EffR T P ρ (Builtin.copy_ ts ty #[x', y']) v m' w := by
  obtain ⟨i, z, hi, hsz, hby, hz, hz0⟩ := (hT e te hte).info
  rw [← hsz] at h
  unfold copyV at h
  split at h
  · rename_i p hsrc
    obtain ⟨cs, n⟩ := p
    obtain ⟨h1, h2, h3⟩ := srcV_ok (P := P) H hy hsrc
    simp only [Option.some.injEq, Prod.mk.injEq] at h
    obtain ⟨rfl, rfl⟩ := h
    obtain rfl : x' = .slice none 0 0 := by cases hx; rfl
    obtain ⟨arr, h4, h5⟩ := h3 0 (Nat.zero_le _)
    refine .keep (v' := .int .i64 0) ?_ H (.refl _ _) (.int _ _)
    have h4' := h4 w rfl
    simp [Builtin.copy_, hts, run_underlying ht, h1, Go.sizeOf, typeInfo, hi, h4', goInt]
  · rename_i cs n o g off alt es' len cap hsrc
    obtain ⟨h1, h2, h3⟩ := srcV_ok (P := P) H hy hsrc
    obtain ⟨l, c, hl, hes, hlc, hcc, hnn, htot, rfl⟩ := slcInv hx
    by_cases he : i.size = es'
    · subst he
      simp only [nbeq, decide_true, cond_true] at h
      generalize hk : (bif n.ble len then n else len) = k at h
      have hk1 : k ≤ n ∧ k ≤ len ∧ Nat.min n len = k := by
        subst hk
        by_cases hle : n ≤ len
        · simp [nble, hle]
        · simp [nble, hle, Nat.min_def]; omega
      split at h <;> try simp at h
      rename_i cs2 hcs2
      split at h <;> simp only [Option.some.injEq, Prod.mk.injEq, reduceCtorEq] at h
      rename_i m1 hw
      obtain ⟨rfl, rfl⟩ := h
      obtain ⟨arr, h4, h5⟩ := h3 k hk1.1
      obtain ⟨_, rfl⟩ := (takeD_eq _ _ _).1 hcs2
      obtain ⟨w', hst, hM, hK⟩ := H.store P hw hl h5
      have h4' := h4 w rfl
      have hst' : (storeCells ⟨l.block, (l.base + (if c = 0 then alt else off)), none⟩ arr.toList).run P w = .ok () w' := by
        by_cases hc0 : c = 0
        · have hk0 : k = 0 := by omega
          have : arr.toList = [] := by
            have := h5.length
            rw [hk0] at this; simpa using this
          rw [this] at hst ⊢
          rw [storeNil] at hst ⊢
          exact hst
        · rw [if_neg hc0]; exact hst
      have hkk : (bif n.ble len then (n : Int) else (len : Int)) = (k : Int) := by
        rw [← hk]; cases n.ble len <;> rfl
      rw [hkk]
      refine .keep (v' := .int .i64 k) ?_ hM hK (.int _ _)
      simp only [Builtin.copy_, hts, List.getElem?_toArray, List.getElem?_cons_zero, List.getElem?_cons_succ, Sem.run_bind, run_underlying ht, Result.andThen_ok, h1, hk1.2.2, Go.sizeOf, typeInfo, run_program, hi, Sem.run_pure, h4', hst', goInt]
    · simp [nbeq, he] at h
  · simp at h
theorem clr_ok (hT : TysOK P T) {m : Mem} {w : World} (H : MR T ρ m w) {t ty e : TypeId} {te : Ty} {ts : Array TypeId} (hts : ts[0]? = some t) (ht : P.underlying t = some (.slice e)) (hte : T.get e = some te)
    {x : AV} {x' : Value} (hx : VR ρ x x') {v : AV} {m' : Mem} (h : clrV te.size te.zero.cells x m = some (v, m')) :
    EffR T P ρ (Builtin.clear_ ts ty #[x']) v m' w := by
  obtain ⟨i, z, hi, hsz, hby, hz, hz0⟩ := (hT e te hte).info
  have hzc : VRs ρ te.zero.cells z.cells.toList := (hz0 ρ).cells
  unfold clrV at h
  split at h
  · simp only [Option.some.injEq, Prod.mk.injEq] at h
    obtain ⟨rfl, rfl⟩ := h
    obtain rfl : x' = .slice none 0 0 := by cases hx; rfl
    refine .keep (v' := .tuple #[]) ?_ H (.refl _ _) (.tup .nil)
    simp [Builtin.clear_, hts, run_underlying ht]
  · rename_i o g off alt es' len cap
    obtain ⟨l, c, hl, hes, hlc, hcc, hnn, htot, rfl⟩ := slcInv hx
    by_cases he : te.size = es'
    · subst he
      simp only [nbeq, decide_true, cond_true] at h
      split at h <;> simp only [Option.some.injEq, Prod.mk.injEq, reduceCtorEq] at h
      rename_i m1 hw
      obtain ⟨rfl, rfl⟩ := h
      have hcells : VRs ρ (copies len te.zero.cells) (Builtin.zeroCells z.cells len).toList := by
        have := copies_rep hzc len
        refine cast (congrArg _ ?_) this
        by_cases h0 : 0 < z.cells.size
        · exact (range_rep z.cells len h0).symm
        · have h0 : z.cells.size = 0 := by omega
          have h1 : z.cells = #[] := by simpa using h0
          simp [Builtin.zeroCells, h1]
      obtain ⟨w', hst, hM, hK⟩ := H.store P hw hl hcells
      refine .keep (v' := .tuple #[]) ?_ hM hK (.tup .nil)
      by_cases hl0 : len = 0
      · subst hl0
        have h0 : (Builtin.zeroCells z.cells 0).toList = [] := by simp [Builtin.zeroCells]
        rw [h0, storeNil] at hst
        simp only [Result.ok.injEq, true_and] at hst
        subst hst
        simp [Builtin.clear_, hts, run_underlying ht]
      · have hc0 : ¬ c = 0 := by omega
        obtain ⟨len, rfl⟩ : ∃ k, len = k + 1 := ⟨len - 1, by omega⟩
        simp [Builtin.clear_, hts, run_underlying ht, zeroValue, typeInfo, hi, hz, hc0, hst]
    · simp [nbeq, he] at h
  · simp at h
theorem store_ok (hT : TysOK P T) {m m' : Mem} {w : World} (H : MR T ρ m w) {t : TypeId} {ty : Ty} (hty : T.get t = some ty) {a x : AV} {a' x' : Value} (ha : VR ρ a a') (hx : VR ρ x x') (h : storeA ty.size a x m = some m') :
    ∃ w', (Instr.storeAt t a' x').run P w = .ok () w' ∧ MR T ρ m' w' ∧ Keep ρ w w' := by
  obtain ⟨i, z, hi, hsz, hby, hz, hz0⟩ := (hT t ty hty).info
  unfold storeA at h
  split at h
  · rename_i o g off
    cases hc : Nat.beq x.cells.length ty.size
    · simp [hc] at h
    simp only [hc, cond_true] at h
    simp only [nbeq, decide_eq_true_eq] at hc
    obtain ⟨l, hl, rfl⟩ := ha.ptr_inv
    have hlen := hx.cells.length
    obtain ⟨w', hst, hM, hK⟩ := H.store P h hl hx.cells
    refine ⟨w', ?_, hM, hK⟩
    have h1 : x'.cells.size = i.size := by rw [hsz, ← hc, ← hlen]; simp
    simp [Instr.storeAt, Instr.sureAddr, storeVar, Go.sizeOf, typeInfo, hi, h1, hst]
  · simp at h
/-! ### Maps -/
/-- A block that is no row turned. -/
def World.obj (w : World) (r : Nat) (y : Go.Obj) : World := { w with heap := w.heap.setIfInBounds r y }
theorem run_setObj {w : World} {r : Nat} {y0 : Go.Obj} (h : w.heap[r]? = some y0) (hn : ∀ c e f, y0 ≠ .cells c e f) (y : Go.Obj) : (setObj r y).run P w = .ok () (World.obj w r y) := by
  simp only [setObj, Sem.run, h]
  cases y0 <;> first | rfl | exact absurd rfl (hn _ _ _)
theorem heap_obj {w : World} {r : Nat} (h : r < w.heap.size) (y : Go.Obj) : (World.obj w r y).heap[r]? = some y := by simp [World.obj, h]
theorem heap_obj_ne {w : World} {r k : Nat} (h : r ≠ k) (y : Go.Obj) : (World.obj w r y).heap[k]? = w.heap[k]? := by simp [World.obj, Array.getElem?_setIfInBounds_ne h]
theorem MR.setObj {m : Mem} {w : World} (H : MR T ρ m w) {o : Nat} {l : Loc} (hl : ρ o 0 = some l) (hrw : l.rw = true) (x : Obj) (y : Go.Obj) (hx : ObjR T ρ o (World.obj w l.block y) x) :
    MR T ρ (m.set o x) (World.obj w l.block y) ∧ Keep ρ w (World.obj w l.block y) := by
  refine ⟨H.put o x (Gh.le.refl _) (fun k => Mem.get_set _ _ _ _) (Nat.le_refl _) (H.dom _ _ _ hl) hx (fun _ _ _ => rfl) (fun k g l' hk hl' => heap_obj_ne (fun hb => hk (H.sep _ _ _ _ _ _ hl hl' hrw hb).symm) _) (fun k g l' hl' => by simpa [World.obj] using H.inb k g l' hl') H.sep,
    rfl, rfl, rfl, by simp [World.obj], fun k hk hn => heap_obj_ne (hn o _ l hl hrw) _⟩
theorem findE_at {kt : TypeId} {k : AV} : ∀ {es : List (AV × AV × Nat)} {s i : Nat} {k' v : AV}, findE T kt k es s = some (some (i, k', v)) → s ≤ i ∧ ∃ b, es[i - s]? = some (k', v, b)
  | [], s, i, k', v, h => by simp [findE] at h
  | (k1, v1, b) :: es, s, i, k', v, h => by
    simp only [findE] at h
    split at h
    · simp only [Option.some.injEq, Prod.mk.injEq] at h
      obtain ⟨rfl, rfl, rfl⟩ := h
      exact ⟨Nat.le_refl _, b, by simp⟩
    · obtain ⟨h1, b', h2⟩ := findE_at h
      refine ⟨by omega, b', ?_⟩
      rw [show i - s = (i - (s + 1)) + 1 from by omega]
      simpa using h2
    · simp at h
theorem ERs.get {es : List (AV × AV × Nat)} {es' : List MapEntry} (h : ERs ρ es es') : ∀ {i : Nat} {k v : AV} {b : Nat}, es[i]? = some (k, v, b) → ∃ e, es'[i]? = some e ∧ VR ρ k e.key ∧ VR ρ v e.val ∧ e.born = b := by
  induction h with
  | nil => intro i k v b h; simp at h
  | cons hk hv t ih =>
    intro i k v b h
    cases i with
    | zero =>
      simp only [List.getElem?_cons_zero, Option.some.injEq, Prod.mk.injEq] at h
      obtain ⟨rfl, rfl, rfl⟩ := h
      exact ⟨_, rfl, hk, hv, rfl⟩
    | succ i => simpa using ih (by simpa using h)
theorem ERs.set {es : List (AV × AV × Nat)} {es' : List MapEntry} (h : ERs ρ es es') : ∀ {i : Nat} {k0 v v0 : AV} {b : Nat} {k' v' : Value}, es[i]? = some (k0, v0, b) → VR ρ k0 k' → VR ρ v v' → ERs ρ (setE i v es) (es'.modify i fun e => { e with key := k', val := v' }) := by
  induction h with
  | nil => intro i k0 v v0 b k' v' h; simp at h
  | cons hk hv t ih =>
    intro i k0 v v0 b k' v' h h1 h2
    cases i with
    | zero =>
      simp only [List.getElem?_cons_zero, Option.some.injEq, Prod.mk.injEq] at h
      obtain ⟨rfl, rfl, rfl⟩ := h
      simpa [setE] using ERs.cons h1 h2 t
    | succ i => simpa [setE] using ERs.cons hk hv (ih (by simpa using h) h1 h2)
theorem ERs.snoc {es : List (AV × AV × Nat)} {es' : List MapEntry} (h : ERs ρ es es') {k v : AV} {k' v' : Value} (b : Nat) (hk : VR ρ k k') (hv : VR ρ v v') : ERs ρ (es ++ [(k, v, b)]) (es' ++ [{ key := k', val := v', born := b }]) := by
  induction h with
  | nil => exact .cons hk hv .nil
  | cons a b' t ih => exact .cons a b' ih
theorem ba_eq {s x : ByteArray} (h : (s == x) = true) : s = x := by
  cases s; cases x
  rename_i a b
  have : (a == b) = true := h
  simp at this; rw [this]
theorem same_plain {n : Nat} {a b : AV} {a' b' : Value} (ha : VR ρ a a') (hb : VR ρ b b') (h : AV.same a b = true) (hp : b.plainKey = true) : Instr.sameBits n a' b' = true ∧ a' = b' := by
  rcases hb.plain hp with ⟨x, rfl, rfl⟩ | ⟨k, x, rfl, rfl⟩ | ⟨x, rfl, rfl⟩ <;> cases ha <;> simp [AV.same] at h
  · simp [h]; cases n <;> simp [Instr.sameBits]
  · simp [h]; cases n <;> simp [Instr.sameBits]
  · refine ⟨?_, by rw [ba_eq h]⟩
    cases n <;> simpa [Instr.sameBits] using h
theorem sames_plain {n : Nat} : ∀ {a b : List AV} {a' b' : List Value}, VRs ρ a a' → VRs ρ b b' → AV.sames a b = true → b.all AV.plainKey = true → ((a'.zip b').all fun (x, y) => Instr.sameBits n x y) = true ∧ a' = b'
  | [], [], _, _, .nil, .nil, _, _ => ⟨rfl, rfl⟩
  | [], _ :: _, _, _, .nil, .cons _ _, h, _ => by simp [AV.sames] at h
  | _ :: _, [], _, _, .cons _ _, .nil, h, _ => by simp [AV.sames] at h
  | _ :: _, _ :: _, _, _, .cons ha ta, .cons hb tb, h, hp => by
    simp only [AV.sames, Bool.and_eq_true] at h
    simp only [List.all_cons, Bool.and_eq_true] at hp
    obtain ⟨h1, h2⟩ := same_plain (n := n) ha hb h.1 hp.1
    obtain ⟨h3, h4⟩ := sames_plain (n := n) ta tb h.2 hp.2
    refine ⟨?_, by rw [h2, h4]⟩
    simp only [List.zip_cons_cons, List.all_cons, h1, Bool.true_and]
    exact h3
theorem same_key {kt : TypeId} {a b : AV} {a' b' : Value} (ha : VR ρ a a') (hb : VR ρ b b') (h : AV.same a b = true) (hf : keyFits T kt b = true) : Instr.sameBits 10000 a' b' = true ∧ a' = b' := by
  unfold keyFits at hf
  split at hf
  · split at hf
    · simp only [Bool.and_eq_true] at hf
      obtain ⟨cs', rfl, hcs⟩ := hb.agg_inv
      cases ha <;> simp only [AV.same, Bool.false_eq_true] at h
      rename_i c c' hc
      obtain ⟨h1, h2⟩ := sames_plain (n := 9999) hc hcs h hf.1
      subst h2
      refine ⟨?_, by simp⟩
      show Instr.sameBits (9999 + 1) _ _ = true
      simp only [Instr.sameBits]
      simpa using h1
    · simp only [Bool.and_eq_true] at hf
      exact same_plain ha hb h hf.2
  · simp at hf
theorem put_ok (hT : TysOK P T) {m m' : Mem} {w : World} (H : MR T ρ m w) {t kt e : TypeId} (ht : P.underlying t = some (.map kt e)) {x k v : AV} {x' k' v' : Value} (hx : VR ρ x x') (hk : VR ρ k k') (hv : VR ρ v v')
    (h : putV T kt x k v m = some m') : ∃ w', (Instr.mapUpdate t x' k' v').run P w = .ok () w' ∧ MR T ρ m' w' ∧ Keep ρ w w' := by
  unfold putV at h
  split at h
  · rename_i o
    obtain ⟨l, hl, rfl⟩ := hx.map_inv
    split at h
    · rename_i es clock ho
      cases hf : keyFits T kt k
      · simp [hf] at h
      simp only [hf, cond_true] at h
      obtain ⟨l2, es', hl2, hrw, hheap, hers⟩ := H.obj o _ ho
      obtain rfl : l = l2 := by simpa [hl] using hl2
      have hg : (getObj l.block).run P w = .ok (.map es' clock) w := run_getObj hheap (by simp)
      have hck := checkKey_ok (w := w) hT hf hk false 9998
      have hbl : l.block < w.heap.size := lt_of_some hheap
      have fin : ∀ (es2 : List (AV × AV × Nat)) (es2' : Array MapEntry) (c2 : Nat), ERs ρ es2 es2'.toList →
          ∃ w', (setObj l.block (.map es2' c2)).run P w = .ok () w' ∧ MR T ρ (m.set o (.map es2 c2)) w' ∧ Keep ρ w w' := by
        intro es2 es2' c2 he2
        obtain ⟨hM, hK⟩ := H.setObj hl hrw (.map es2 c2) (.map es2' c2) ⟨l, es2', hl, hrw, heap_obj hbl _, he2⟩
        exact ⟨_, run_setObj hheap (by simp) _, hM, hK⟩
      split at h
      · rename_i i k1 v1 hfind
        cases hsame : AV.same k1 k
        · simp [hsame] at h
        simp only [hsame, cond_true, Option.some.injEq] at h
        subst h
        obtain ⟨r', h1, h2⟩ := findKey_ok (P := P) (w := w) hT hf hk hers hfind
        obtain ⟨_, b, hat⟩ := findE_at hfind
        obtain ⟨ent, he1, he2, he3, he4⟩ := hers.get hat
        cases r' with
        | none => simp [EntryR] at h2
        | some r' =>
          obtain ⟨j, vv⟩ := r'
          obtain ⟨rfl, _⟩ := h2
          obtain ⟨hbits, heq⟩ := same_key he2 hk hsame hf
          obtain ⟨w', hs, hM, hK⟩ := fin (setE i v es) (es'.modify i fun e => { e with key := k', val := v' }) clock (by simpa using hers.set hat (heq ▸ he2) hv)
          refine ⟨w', ?_, hM, hK⟩
          have he1' : es'[i]? = some ent := by simpa using he1
          have hkt : (Instr.keyThatStays ent.key k').run P w = .ok k' w := by simp only [Instr.keyThatStays, hbits, if_true, Sem.run_pure]
          simp only [Instr.mapUpdate, Sem.run_bind, run_underlying ht, Result.andThen_ok, hg, hck, h1, he1', Option.map_some, Option.getD_some, hkt, hs]
      · rename_i hfind
        simp only [Option.some.injEq] at h
        subst h
        obtain ⟨r', h1, h2⟩ := findKey_ok (P := P) (w := w) hT hf hk hers hfind
        cases r' with
        | some r' => simp [EntryR] at h2
        | none =>
          obtain ⟨w', hs, hM, hK⟩ := fin (es ++ [(k, v, clock)]) (es'.push { key := k', val := v', born := clock }) (clock + 1) (by simpa using hers.snoc clock hk hv)
          refine ⟨w', ?_, hM, hK⟩
          simp only [Instr.mapUpdate, Sem.run_bind, run_underlying ht, Result.andThen_ok, hg, hck, h1, hs]
      · simp at h
    · simp at h
  · simp at h
end
end AM

/- Operations that write memory: the theorem. Printed by am14.py. -/
namespace AM
open Go

section
variable {P : Program} {T : Tys} {ρ : Gh} {vt : List Tmp} {nt : Nat} {ds : List (Option Tmp)} {s vars : List AV} {tmps : Array Value}
theorem row_grow {m : Mem} {w : World} (H : MR T ρ m w) {o : Nat} {r : Row} (hr : m.get o = some (.row r)) (hro : r.ro = false) {l : Loc} (hl : ρ o r.gen = some l) :
    ∃ w', (markStringish ⟨l.block, l.base + 0, none⟩).run P w = .ok () w' ∧ MR T ρ m w' ∧ Keep ρ w w' := by
  obtain ⟨h0, l1, hl1, hL⟩ := H.obj o _ hr
  obtain rfl : l = l1 := by simpa [hl] using hl1
  have hrw : l.rw = true := by rw [hL.rw, hro]; rfl
  rcases hL.at_ with ⟨_, h6⟩ | ⟨cc, ce, fz, h6, h7, h9, h8⟩
  · simp [hro] at h6
  obtain ⟨hb0, htc, hfz⟩ := h9 hro
  have hbl : l.block < w.heap.size := lt_of_some h6
  have hs : w.shape? l.block = some (ce, cc.size) := by simp only [World.shape?, h6]
  have hex : ∃ fz2 : Nat × Nat, w.freeze ⟨l.block, cc.size, none⟩ 1 = World.row w l.block cc ce fz2 ∧ (fz2.1 = fz2.2 ∨ cc.size ≤ fz2.1) := by
    refine ⟨if fz.1 == fz.2 then (cc.size, cc.size + 1) else (min fz.1 cc.size, max fz.2 (cc.size + 1)), ?_, ?_⟩
    · simp only [World.freeze, if_neg (show ¬ (1 = 0) by decide), World.row]
      congr 1
      apply Array.ext
      · simp
      · intro k h1 h2
        simp only [Array.getElem_modify]
        by_cases hk : l.block = k
        · subst hk
          have h10 := (Array.getElem?_eq_some_iff.1 h6).2
          simp [h10]
        · have hk2 : k < w.heap.size := by simpa using h2
          rw [Array.getElem_setIfInBounds_ne hk2 hk]; simp [hk]
    · by_cases hq : fz.1 = fz.2
      · simp [hq]
      · have h12 : cc.size ≤ fz.1 := hfz.resolve_left hq
        have hq' : (fz.1 == fz.2) = false := by simpa using hq
        refine .inr ?_
        rw [hq', if_neg (by decide)]
        exact Nat.le_min.2 ⟨h12, Nat.le_refl _⟩
  obtain ⟨fz2, h10, h11⟩ := hex
  refine ⟨World.row w l.block cc ce fz2, ?_, ?_, ⟨rfl, rfl, rfl, by simp, fun k hk hn => heap_row_ne (hn o _ l hl hrw) _ _ _⟩⟩
  · simp only [markStringish, Sem.run_bind, run_shape, hs, Result.andThen_ok, run_freeze, h10]
  · have hmm : ∀ k, m.get k = if k = o then some (.row r) else m.get k := fun k => by by_cases h : k = o <;> simp [h, hr]
    refine H.put o (.row r) (Gh.le.refl _) hmm (Nat.le_refl _) (H.dom _ _ _ hl) ⟨h0, l, hl, hL.n, hL.rw, .inr ⟨cc, ce, fz2, heap_row hbl _ _ _, h7, fun _ => ⟨hb0, htc, h11⟩, h8⟩⟩ (fun _ _ _ => rfl)
      (fun k g l' hk hl' => heap_row_ne (fun hb => hk (H.sep _ _ _ _ _ _ hl hl' hrw hb).symm) _ _ _) (fun k g l' hl' => by simpa using H.inb k g l' hl') H.sep
/-- What an operation with an effect comes to. -/
def NextR (ρ : Gh) (v : AV) : Next → Prop
  | .value v' => VR ρ v v'
  | .skip => v = .und
  | _ => False
theorem EffR.value {sm : Sem Value} {v : AV} {m' : Mem} {w : World} (h : EffR T P ρ sm v m' w) {f : Sem Next} (hf : f = (do pure (.value (← sm)))) :
    ∃ nx w' ρ', f.run P w = .ok nx w' ∧ MR T ρ' m' w' ∧ Adv ρ w ρ' w' ∧ NextR ρ' v nx := by
  obtain ⟨v', w', ρ', h1, h2, h3, h4⟩ := h.go
  subst hf
  exact ⟨.value v', w', ρ', by simp only [Sem.run_bind, h1, Result.andThen_ok, Sem.run_pure], h2, h3, h4⟩
theorem unit_next {sm : Sem Unit} {m' : Mem} {w w' : World} (h1 : sm.run P w = .ok () w') (h2 : MR T ρ m' w') (h3 : Keep ρ w w') {f : Sem Next} (hf : f = (do sm; pure .skip)) :
    ∃ nx w' ρ', f.run P w = .ok nx w' ∧ MR T ρ' m' w' ∧ Adv ρ w ρ' w' ∧ NextR ρ' .und nx := by
  subst hf
  exact ⟨.skip, w', ρ, by simp only [Sem.run_bind, h1, Result.andThen_ok, Sem.run_pure], h2, ⟨Gh.le.refl _, fun _ _ _ h => .inl h, h3⟩, rfl⟩
theorem exec_builtin2 {dst : Option Tmp} {b : Builtin} {args : Array Operand} {argTypes : Array TypeId} {type : TypeId} {pos : String} {after : Array Edge} {guard : Option (Nat × Bool)} {f : Array TypeId → TypeId → Array Value → Sem Value}
    (hb : ∀ tys ty cs as, builtin b tys ty cs as = (do pure (.value (← f tys ty as)))) : ∃ ty, execOp (evalT tmps) ⟨dst, .call ⟨.builtin b, args, argTypes⟩, type, pos, after, guard⟩ = (do pure (.value (← f argTypes ty (args.map (evalT tmps))))) := by
  rw [exec_builtin]
  exact ⟨_, hb _ _ _ _⟩
theorem eff_ok (hT : TysOK P T) {m m' : Mem} {w : World} (H : MR T ρ m w) (hs : SR ρ vt nt ds s vars tmps) {o : Oper} {a : AOp} (hc : compOp T vt ds o.op = some a) {v : AV} (hp : effOp T s vars a m = some (v, m')) :
    ∃ nx w' ρ', (execOp (evalT tmps) o).run P w = .ok nx w' ∧ MR T ρ' m' w' ∧ Adv ρ w ρ' w' ∧ NextR ρ' v nx := by
  obtain ⟨dst, op, type, pos, after, guard⟩ := o
  simp only at hc
  cases op with
  | store t x y =>
    simp only [compOp, Option.pure_def, Option.bind_eq_bind, Option.bind_eq_some_iff, Option.some.injEq] at hc
    obtain ⟨ty, hty, x', hx, y', hy, rfl⟩ := hc
    simp only [effOp] at hp
    split at hp <;> simp only [Option.some.injEq, Prod.mk.injEq, reduceCtorEq] at hp
    rename_i m1 hst
    obtain ⟨rfl, rfl⟩ := hp
    obtain ⟨w', h1, h2, h3⟩ := store_ok (P := P) hT H hty (ev_ok hs hx) (ev_ok hs hy) hst
    exact unit_next h1 h2 h3 rfl
  | mapUpdate t x k v =>
    simp only [compOp, Option.pure_def, Option.bind_eq_bind, Option.bind_eq_some_iff] at hc
    obtain ⟨ty, hty, hc⟩ := hc
    split at hc
    · rename_i kt e hkk
      simp only [Option.bind_eq_some_iff, Option.some.injEq] at hc
      obtain ⟨x', hx, k', hk', v', hv', rfl⟩ := hc
      simp only [effOp] at hp
      split at hp <;> simp only [Option.some.injEq, Prod.mk.injEq, reduceCtorEq] at hp
      rename_i m1 hst
      obtain ⟨rfl, rfl⟩ := hp
      obtain ⟨w', h1, h2, h3⟩ := put_ok (P := P) hT H (map_desc hT hty hkk) (ev_ok hs hx) (ev_ok hs hk') (ev_ok hs hv') hst
      exact unit_next h1 h2 h3 rfl
    · simp at hc
  | insert t x k v =>
    simp only [compOp, Option.pure_def, Option.bind_eq_bind, Option.bind_eq_some_iff] at hc
    obtain ⟨ty, hty, hc⟩ := hc
    split at hc
    · rename_i kt e hkk
      simp only [Option.bind_eq_some_iff, Option.some.injEq] at hc
      obtain ⟨x', hx, k', hk', v', hv', rfl⟩ := hc
      simp only [effOp] at hp
      split at hp <;> simp only [Option.some.injEq, Prod.mk.injEq, reduceCtorEq] at hp
      rename_i m1 hst
      obtain ⟨rfl, rfl⟩ := hp
      obtain ⟨w', h1, h2, h3⟩ := put_ok (P := P) hT H (map_desc hT hty hkk) (ev_ok hs hx) (ev_ok hs hk') (ev_ok hs hv') hst
      exact unit_next h1 h2 h3 rfl
    · simp at hc
  | convert src dst x =>
    simp only [compOp, Option.pure_def, Option.bind_eq_bind, Option.bind_eq_some_iff] at hc
    obtain ⟨sy, hsy, dy, hdy, hc⟩ := hc
    split at hc
    · simp only [Option.bind_eq_some_iff, Option.some.injEq] at hc
      obtain ⟨x', hx, rfl⟩ := hc
      simp [effOp] at hp
    · simp only [Option.bind_eq_some_iff, Option.some.injEq] at hc
      obtain ⟨x', hx, rfl⟩ := hc
      simp [effOp] at hp
    · simp only [Option.bind_eq_some_iff] at hc
      obtain ⟨te, _, hc⟩ := hc
      split at hc
      · simp only [Option.bind_eq_some_iff, Option.some.injEq] at hc
        obtain ⟨x', hx, rfl⟩ := hc
        simp [effOp] at hp
      · simp at hc
    · simp only [Option.bind_eq_some_iff] at hc
      obtain ⟨te, _, hc⟩ := hc
      split at hc
      · simp only [Option.bind_eq_some_iff, Option.some.injEq] at hc
        obtain ⟨x', hx, rfl⟩ := hc
        simp [effOp] at hp
      · simp at hc
    · rename_i e0 e hk1 hk2
      simp only [Option.bind_eq_some_iff] at hc
      obtain ⟨te, hte, hc⟩ := hc
      split at hc
      · rename_i hk3
        cases hb : src.beq dst
        · simp [hb] at hc
        · simp only [hb, cond_true, Option.bind_eq_some_iff, Option.some.injEq] at hc
          obtain ⟨x', hx, rfl⟩ := hc
          simp only [nbeq, decide_eq_true_eq] at hb
          subst hb
          simp only [effOp] at hp
          split at hp <;> try (simp at hp; done)
          rename_i o g off alt es len cap hxe
          split at hp <;> try (simp at hp; done)
          rename_i r hr
          cases hg : (!r.ro && g.beq r.gen)
          · simp [hg] at hp
          simp only [hg, cond_true, Option.some.injEq, Prod.mk.injEq] at hp
          obtain ⟨rfl, rfl⟩ := hp
          simp only [Bool.and_eq_true, nbeq, decide_eq_true_eq, Bool.not_eq_true'] at hg
          obtain ⟨hro, rfl⟩ := hg
          have hv := ev_ok hs hx
          rw [hxe] at hv
          obtain ⟨l, c, hl, hes, hlc, hcc, hnn, htot, he⟩ := slcInv hv
          obtain ⟨w', h1, h2, h3⟩ := row_grow (P := P) H hr hro hl
          have hm : ∀ off', markStringish ⟨l.block, off', none⟩ = markStringish ⟨l.block, l.base + 0, none⟩ := fun _ => rfl
          rw [he] at hv
          refine ⟨.value (evalT tmps x), w', ρ, run_ok_value ?_, h2, ⟨Gh.le.refl _, fun _ _ _ h => .inl h, h3⟩, by rw [he]; exact hv⟩
          rw [he]
          have hd1 := slice_desc hT hsy hk1
          have hd2 := slice_desc hT hdy hk2
          have hd3 := int_desc hT hte hk3
          obtain rfl : e0 = e := by rw [hd1] at hd2; simpa using hd2
          simp only [Go.convert, Sem.run_bind, run_underlying hd1, run_underlying hd3, Result.andThen_ok, beq_self_eq_true, hm, h1, Sem.run_pure]
      · simp at hc
    · simp at hc
  | call c =>
    obtain ⟨callee, args, argTypes⟩ := c
    cases callee with
    | value f =>
      simp only [compOp, Option.pure_def, Option.bind_eq_bind, Option.bind_eq_some_iff, Option.some.injEq] at hc
      obtain ⟨f', _, as, _, rfl⟩ := hc
      simp [effOp] at hp
    | invoke r m => simp [compOp] at hc
    | builtin b =>
      cases b
      case len =>
        simp only [compOp] at hc
        split at hc <;> first | (simp_all; done) | skip
        simp only [Option.pure_def, Option.bind_eq_bind, Option.bind_eq_some_iff] at hc
        obtain ⟨ty, hty, hc⟩ := hc
        split at hc <;> first | (simp at hc; done) | skip
        all_goals
          simp only [Option.bind_eq_some_iff, Option.some.injEq] at hc
          obtain ⟨x', hx, rfl⟩ := hc
          simp [effOp] at hp
      case min =>
        simp only [compOp] at hc
        split at hc <;> first | (simp_all; done) | skip
        simp only [Option.pure_def, Option.bind_eq_bind, Option.bind_eq_some_iff, Option.some.injEq] at hc
        obtain ⟨_, _, _, _, rfl⟩ := hc
        simp [effOp] at hp
      case max =>
        simp only [compOp] at hc
        split at hc <;> first | (simp_all; done) | skip
        simp only [Option.pure_def, Option.bind_eq_bind, Option.bind_eq_some_iff, Option.some.injEq] at hc
        obtain ⟨_, _, _, _, rfl⟩ := hc
        simp [effOp] at hp
      case recover =>
        simp only [compOp, Option.pure_def, Option.some.injEq] at hc
        subst hc; simp [effOp] at hp
      case append =>
        simp only [compOp] at hc
        split at hc <;> first | (simp_all; done) | skip
        rename_i a1 a2 t1 t2 _ ha hat
        simp only [Option.pure_def, Option.bind_eq_bind, Option.bind_eq_some_iff] at hc
        obtain ⟨⟨e, te⟩, hst, uy, huy, hc⟩ := hc
        split at hc
        · rename_i hk2
          simp only [Option.bind_eq_some_iff, Option.some.injEq] at hc
          obtain ⟨x', hx, y', hy, rfl⟩ := hc
          obtain rfl : args = #[a1, a2] := by apply Array.ext'; simpa using ha
          obtain rfl : argTypes = #[t1, t2] := by apply Array.ext'; simpa using hat
          simp only [effOp] at hp
          obtain ⟨hu1, hte, _, _⟩ := sliceTy_ok hT hst
          obtain ⟨ty, hexec⟩ := exec_builtin2 (tmps := tmps) (dst := dst) (b := .append) (args := #[a1, a2]) (argTypes := #[t1, t2]) (type := type) (pos := pos) (after := after) (guard := guard) (f := Builtin.append_) (fun _ _ _ _ => rfl)
          have h1 := append_ok (P := P) (ty := ty) hT H hu1 hte (.inr (str_desc hT huy hk2)) (ev_ok hs hx) (ev_ok hs hy) hp
          exact EffR.value h1 (by simpa using hexec)
        · rename_i hk2
          simp only [Option.bind_eq_some_iff, Option.some.injEq] at hc
          obtain ⟨x', hx, y', hy, rfl⟩ := hc
          obtain rfl : args = #[a1, a2] := by apply Array.ext'; simpa using ha
          obtain rfl : argTypes = #[t1, t2] := by apply Array.ext'; simpa using hat
          simp only [effOp] at hp
          obtain ⟨hu1, hte, _, _⟩ := sliceTy_ok hT hst
          obtain ⟨ty, hexec⟩ := exec_builtin2 (tmps := tmps) (dst := dst) (b := .append) (args := #[a1, a2]) (argTypes := #[t1, t2]) (type := type) (pos := pos) (after := after) (guard := guard) (f := Builtin.append_) (fun _ _ _ _ => rfl)
          have h1 := append_ok (P := P) (ty := ty) hT H hu1 hte (.inl ⟨_, slice_desc hT huy hk2⟩) (ev_ok hs hx) (ev_ok hs hy) hp
          exact EffR.value h1 (by simpa using hexec)
        · simp at hc
      case copy =>
        simp only [compOp] at hc
        split at hc <;> first | (simp_all; done) | skip
        rename_i a1 a2 t1 ts _ ha hat
        simp only [Option.pure_def, Option.bind_eq_bind, Option.bind_eq_some_iff, Option.some.injEq] at hc
        obtain ⟨⟨e, te⟩, hst, x', hx, y', hy, rfl⟩ := hc
        obtain rfl : args = #[a1, a2] := by apply Array.ext'; simpa using ha
        simp only [effOp] at hp
        obtain ⟨hu1, hte, _, _⟩ := sliceTy_ok hT hst
        have hts : argTypes[0]? = some t1 := by rw [← Array.getElem?_toList, hat]; rfl
        obtain ⟨ty, hexec⟩ := exec_builtin2 (tmps := tmps) (dst := dst) (b := .copy) (args := #[a1, a2]) (argTypes := argTypes) (type := type) (pos := pos) (after := after) (guard := guard) (f := Builtin.copy_) (fun _ _ _ _ => rfl)
        exact EffR.value (copy_ok (P := P) (ty := ty) hT H hts hu1 hte (ev_ok hs hx) (ev_ok hs hy) hp) (by simpa using hexec)
      case clear =>
        simp only [compOp] at hc
        split at hc <;> first | (simp_all; done) | skip
        rename_i a1 t1 ts _ ha hat
        simp only [Option.pure_def, Option.bind_eq_bind, Option.bind_eq_some_iff, Option.some.injEq] at hc
        obtain ⟨⟨e, te⟩, hst, x', hx, rfl⟩ := hc
        obtain rfl : args = #[a1] := by apply Array.ext'; simpa using ha
        simp only [effOp] at hp
        obtain ⟨hu1, hte, _, _⟩ := sliceTy_ok hT hst
        have hts : argTypes[0]? = some t1 := by rw [← Array.getElem?_toList, hat]; rfl
        obtain ⟨ty, hexec⟩ := exec_builtin2 (tmps := tmps) (dst := dst) (b := .clear) (args := #[a1]) (argTypes := argTypes) (type := type) (pos := pos) (after := after) (guard := guard) (f := Builtin.clear_) (fun _ _ _ _ => rfl)
        exact EffR.value (clr_ok (P := P) (ty := ty) hT H hts hu1 hte (ev_ok hs hx) hp) (by simpa using hexec)
      all_goals (simp [compOp] at hc; done)
  | move x =>
    simp only [compOp, Option.pure_def, Option.bind_eq_bind, Option.bind_eq_some_iff, Option.some.injEq] at hc
    obtain ⟨_, _, rfl⟩ := hc
    simp [effOp] at hp
  | assign x =>
    simp only [compOp, Option.pure_def, Option.bind_eq_bind, Option.bind_eq_some_iff, Option.some.injEq] at hc
    obtain ⟨_, _, rfl⟩ := hc
    simp [effOp] at hp
  | pick c x y =>
    simp only [compOp, Option.pure_def, Option.bind_eq_bind, Option.bind_eq_some_iff, Option.some.injEq] at hc
    obtain ⟨_, _, _, _, _, _, rfl⟩ := hc
    simp [effOp] at hp
  | build t parts =>
    simp only [compOp, Option.pure_def, Option.bind_eq_bind, Option.bind_eq_some_iff] at hc
    obtain ⟨ty, hty, hc⟩ := hc
    split at hc
    · simp only [Option.bind_eq_some_iff, Option.some.injEq] at hc
      obtain ⟨_, _, rfl⟩ := hc
      simp [effOp] at hp
    · simp at hc
  | nilCheck x =>
    simp only [compOp, Option.pure_def, Option.bind_eq_bind, Option.bind_eq_some_iff, Option.some.injEq] at hc
    obtain ⟨_, _, rfl⟩ := hc
    simp [effOp] at hp
  | binOp bop t x y yt =>
    simp only [compOp, Option.pure_def, Option.bind_eq_bind, Option.bind_eq_some_iff, Option.some.injEq] at hc
    obtain ⟨_, _, _, _, rfl⟩ := hc
    simp [effOp] at hp
  | unOp u t x =>
    simp only [compOp, Option.pure_def, Option.bind_eq_bind, Option.bind_eq_some_iff, Option.some.injEq] at hc
    obtain ⟨_, _, rfl⟩ := hc
    simp [effOp] at hp
  | makeInterface t x =>
    simp only [compOp, Option.pure_def, Option.bind_eq_bind, Option.bind_eq_some_iff] at hc
    obtain ⟨ty, hty, hc⟩ := hc
    split at hc
    · simp at hc
    · simp at hc
    · simp only [Option.bind_eq_some_iff, Option.some.injEq] at hc
      obtain ⟨_, _, rfl⟩ := hc
      simp [effOp] at hp
  | makeFunc f first captured =>
    cases f with
    | func f =>
      simp only [compOp] at hc
      split at hc
      · simp only [Option.pure_def, Option.bind_eq_bind, Option.bind_eq_some_iff, Option.some.injEq] at hc
        obtain ⟨_, _, rfl⟩ := hc
        simp [effOp] at hp
      · simp at hc
    | _ => simp [compOp] at hc
  | slice t x lo hi mx =>
    cases mx with
    | some m => simp [compOp] at hc
    | none =>
      simp only [compOp, Option.pure_def, Option.bind_eq_bind, Option.bind_eq_some_iff] at hc
      obtain ⟨ty, hty, hc⟩ := hc
      split at hc
      · simp only [Option.bind_eq_some_iff, Option.some.injEq] at hc
        obtain ⟨_, _, _, _, _, _, rfl⟩ := hc
        simp [effOp] at hp
      · simp only [Option.bind_eq_some_iff, Option.some.injEq] at hc
        obtain ⟨⟨_, _⟩, _, _, _, _, _, _, _, rfl⟩ := hc
        simp [effOp] at hp
  | fieldAddr t x f =>
    simp only [compOp, Option.pure_def, Option.bind_eq_bind, Option.bind_eq_some_iff] at hc
    obtain ⟨ty, hty, hc⟩ := hc
    split at hc
    · simp only [Option.bind_eq_some_iff] at hc
      obtain ⟨fl, hfl, hc⟩ := hc
      by_cases h0 : fl.size = 0
      · simp [h0] at hc
      simp only [nbeq, h0, decide_false, cond_false, Option.some.injEq] at hc
      obtain ⟨_, _, rfl⟩ := hc
      simp [effOp] at hp
    · simp at hc
  | field t x f =>
    simp only [compOp, Option.pure_def, Option.bind_eq_bind, Option.bind_eq_some_iff] at hc
    obtain ⟨ty, hty, hc⟩ := hc
    split at hc
    · simp only [Option.bind_eq_some_iff, Option.some.injEq] at hc
      obtain ⟨_, _, _, _, rfl⟩ := hc
      simp [effOp] at hp
    · simp at hc
  | indexAddr t x i =>
    simp only [compOp, Option.pure_def, Option.bind_eq_bind, Option.bind_eq_some_iff, Option.some.injEq] at hc
    obtain ⟨⟨_, _⟩, _, _, _, _, _, rfl⟩ := hc
    simp [effOp] at hp
  | index t x i =>
    simp only [compOp, Option.pure_def, Option.bind_eq_bind, Option.bind_eq_some_iff] at hc
    obtain ⟨ty, hty, hc⟩ := hc
    split at hc
    · simp only [Option.bind_eq_some_iff, Option.some.injEq] at hc
      obtain ⟨_, _, _, _, rfl⟩ := hc
      simp [effOp] at hp
    · simp at hc
  | extract x i =>
    simp only [compOp, Option.pure_def, Option.bind_eq_bind, Option.bind_eq_some_iff, Option.some.injEq] at hc
    obtain ⟨_, _, rfl⟩ := hc
    simp [effOp] at hp
  | typeAssert x xt t ok =>
    simp only [compOp, Option.pure_def, Option.bind_eq_bind, Option.bind_eq_some_iff] at hc
    obtain ⟨ty, hty, hc⟩ := hc
    split at hc
    · simp at hc
    · simp at hc
    · simp only [Option.bind_eq_some_iff, Option.some.injEq] at hc
      obtain ⟨_, _, rfl⟩ := hc
      simp [effOp] at hp
  | load t x =>
    simp only [compOp, Option.pure_def, Option.bind_eq_bind, Option.bind_eq_some_iff] at hc
    obtain ⟨ty, _, hc⟩ := hc
    split at hc
    · simp at hc
    · simp only [Option.bind_eq_some_iff, Option.some.injEq] at hc
      obtain ⟨_, _, rfl⟩ := hc
      simp [effOp] at hp
  | lookup t x k ok =>
    simp only [compOp, Option.pure_def, Option.bind_eq_bind, Option.bind_eq_some_iff] at hc
    obtain ⟨ty, _, hc⟩ := hc
    split at hc
    · simp only [Option.bind_eq_some_iff, Option.some.injEq] at hc
      obtain ⟨_, _, _, _, _, _, rfl⟩ := hc
      simp [effOp] at hp
    · simp at hc
  | alloc e =>
    simp only [compOp, Option.pure_def, Option.bind_eq_bind, Option.bind_eq_some_iff, Option.some.injEq] at hc
    obtain ⟨_, _, rfl⟩ := hc
    simp [effOp] at hp
  | box e x =>
    simp only [compOp, Option.pure_def, Option.bind_eq_bind, Option.bind_eq_some_iff, Option.some.injEq] at hc
    obtain ⟨_, _, rfl⟩ := hc
    simp [effOp] at hp
  | buildSlice t n parts =>
    simp only [compOp, Option.pure_def, Option.bind_eq_bind, Option.bind_eq_some_iff] at hc
    obtain ⟨⟨e, te⟩, _, hc⟩ := hc
    cases hb : (n * te.size).ble 16777216
    · simp [hb] at hc
    · simp only [hb, cond_true, Option.some.injEq] at hc
      obtain ⟨_, _, rfl⟩ := hc
      simp [effOp] at hp
  | makeSlice t l c =>
    simp only [compOp, Option.pure_def, Option.bind_eq_bind, Option.bind_eq_some_iff, Option.some.injEq] at hc
    obtain ⟨_, _, _, _, _, _, rfl⟩ := hc
    simp [effOp] at hp
  | makeMap t r =>
    cases r with
    | none => simp only [compOp, Option.pure_def, Option.some.injEq] at hc; subst hc; simp [effOp] at hp
    | some r => simp [compOp] at hc
  | panic x =>
    simp only [compOp, Option.pure_def, Option.bind_eq_bind, Option.bind_eq_some_iff, Option.some.injEq] at hc
    obtain ⟨_, _, rfl⟩ := hc
    simp [effOp] at hp
  | defer c =>
    obtain ⟨callee, args, argTypes⟩ := c
    cases callee with
    | value f =>
      simp only [compOp, Option.pure_def, Option.bind_eq_bind, Option.bind_eq_some_iff, Option.some.injEq] at hc
      obtain ⟨_, _, _, _, rfl⟩ := hc
      simp [effOp] at hp
    | _ => simp [compOp] at hc
  | _ => simp [compOp] at hc
end
end AM

/- The machine's steps, for frames of any kind. -/
namespace AM
open Go

/-- A frame that runs. -/
def fat (b : Frame) (t : Array Value) (d : List Deferred) (k : List Item) : Frame := { b with tmps := t, todo := k, defers := d, mode := .run }
theorem eval_evalT (fr : Frame) : fr.eval = evalT fr.tmps := by
  funext x; cases x <;> rfl
def putT (t : Array Value) (d : Option Tmp) (v : Value) : Array Value :=
  match d with
  | some d => t.setIfInBounds d v
  | none => t
theorem finish_fat (b : Frame) (t : Array Value) (d : List Deferred) (ops : Array Oper) (i : Nat) (rest : List Nat) (k : List Item) (v : Value) :
    (fat b t d (.inRegion ops (i :: rest) :: k)).finish v = fat b (putT t ((ops[i]?).bind (·.dst)) v) d (.inRegion ops rest :: k) := by
  cases h : (ops[i]?).bind (·.dst) <;> simp [Frame.finish, fat, putT, h]

section
variable {P : Program} {b : Frame} {t : Array Value} {d : List Deferred} {k : List Item} {cs : List Frame} {w w' : World} {ops : Array Oper}
theorem st_skip : step P (lone (fat b t d (.code .skip :: k)) cs w) = .next (lone (fat b t d k) cs w) := step_lone_go (by simp [stepG, stepG.exec, fat])
theorem st_label {l : Nat} : step P (lone (fat b t d (.code (.label l) :: k)) cs w) = .next (lone (fat b t d k) cs w) := step_lone_go (by simp [stepG, stepG.exec, fat])
theorem st_inBlock {id : Nat} : step P (lone (fat b t d (.inBlock id :: k)) cs w) = .next (lone (fat b t d k) cs w) := step_lone_go (by simp [stepG, stepG.exec, fat])
theorem st_seq {x y : Code} : step P (lone (fat b t d (.code (.seq x y) :: k)) cs w) = .next (lone (fat b t d (.code x :: .code y :: k)) cs w) := step_lone_go (by simp [stepG, stepG.exec, fat])
theorem st_block {id : Nat} {c : Code} : step P (lone (fat b t d (.code (.block id c) :: k)) cs w) = .next (lone (fat b t d (.code c :: .inBlock id :: k)) cs w) := step_lone_go (by simp [stepG, stepG.exec, fat])
theorem st_loop {c : Code} : step P (lone (fat b t d (.code (.loop c) :: k)) cs w) = .next (lone (fat b t d (.code c :: .inLoop c :: k)) cs w) := step_lone_go (by simp [stepG, stepG.exec, fat])
theorem st_inLoop {c : Code} : step P (lone (fat b t d (.inLoop c :: k)) cs w) = .next (lone (fat b t d (.code c :: .inLoop c :: k)) cs w) := step_lone_go (by simp [stepG, stepG.exec, fat])
theorem st_cond {c : Operand} {x y : Code} {v : Bool} (h : evalT t c = .bool v) :
    step P (lone (fat b t d (.code (.cond c x y) :: k)) cs w) = .next (lone (fat b t d (.code (if v then x else y) :: k)) cs w) :=
  step_lone_go (by
    have h' : (fat b t d (.code (.cond c x y) :: k)).eval c = .bool v := by rw [eval_evalT]; exact h
    simp only [fat] at h'
    simp [stepG, stepG.exec, fat, h'])
theorem st_exit {id : Nat} {k' : List Item} (h : exitTo id k = some k') : step P (lone (fat b t d (.code (.exit id) :: k)) cs w) = .next (lone (fat b t d k') cs w) := step_lone_go (by simp [stepG, stepG.exec, fat, h])
theorem st_ret (hr : b.roundOf = none) : step P (lone (fat b t d (.code .ret :: k)) cs w) = .next (lone { fat b t d (.code .ret :: k) with mode := .returning } cs w) := step_lone_go (by simp [stepG, stepG.exec, fat, hr])
theorem st_end (hr : b.roundOf = none) : step P (lone (fat b t d []) cs w) = .next (lone { fat b t d [] with mode := .returning } cs w) := step_lone_go (by simp [stepG, stepG.exec, fat, hr])
theorem st_region {id : Nat} : step P (lone (fat b t d (.code (.region id ops false) :: k)) cs w) = .next (lone (fat b t d (.inRegion ops (List.range ops.size) :: k)) cs w) := step_lone_go (by simp [stepG, stepG.exec, fat])
theorem st_region_draw {id : Nat} :
    step P (lone (fat b t d (.code (.region id ops true) :: k)) cs w) =
      .next (lone (fat b t d (.inRegion ops (Region.schedule (P.follows .mixedOrders) ops (w.tape w.drawn (.order b.fn id))) :: k)) cs { w with drawn := w.drawn + 1 }) :=
  step_lone_go (by simp [stepG, stepG.exec, fat, choose, Sem.run, Question.forced, Question.cut])
theorem st_region_end : step P (lone (fat b t d (.inRegion ops [] :: k)) cs w) = .next (lone (fat b t d k) cs w) := step_lone_go (by simp [stepG, stepG.exec, fat])
theorem st_op_skip {i : Nat} {rest : List Nat} {o : Oper} (ho : ops[i]? = some o) (h : Region.wanted o (yielded ops t) = false) :
    step P (lone (fat b t d (.inRegion ops (i :: rest) :: k)) cs w) = .next (lone (fat b (putT t o.dst undef) d (.inRegion ops rest :: k)) cs w) := by
  have hf := finish_fat b t d ops i rest k undef
  rw [ho] at hf
  simp only [Option.bind_some] at hf
  rw [← hf]
  exact step_lone_go (by simp [stepG, stepG.exec, fat, ho, h])
/-- Not a deferred call in a round. -/
def notDefer (b : Frame) (o : Oper) : Prop := b.roundOf = none ∨ ∀ c, o.op ≠ .defer c
theorem stG_op {i : Nat} {rest : List Nat} {o : Oper} (ho : ops[i]? = some o) (hw : Region.wanted o (yielded ops t) = true) (hd : notDefer b o) :
    stepG P true { frame := fat b t d (.inRegion ops (i :: rest) :: k), callers := cs, status := .running, dying := none } w =
      stepG.apply P true (fat b t d (.inRegion ops (i :: rest) :: k)) cs none (execOp (evalT t) o) w := by
  have he : (fat b t d (.inRegion ops (i :: rest) :: k)).eval = evalT t := eval_evalT _
  have h1 : stepG P true { frame := fat b t d (.inRegion ops (i :: rest) :: k), callers := cs, status := .running, dying := none } w = stepG.oper P true (fat b t d (.inRegion ops (i :: rest) :: k)) cs none w := by
    simp [stepG, stepG.exec, fat, ho, hw]
  have h2 : (fat b t d (.inRegion ops (i :: rest) :: k)).oper? = some o := by simp [Frame.oper?, fat, ho]
  rw [h1]
  unfold stepG.oper
  rw [h2, he]
  dsimp only
  split
  · rename_i l c hl hc
    rcases hd with hd | hd
    · have : (fat b t d (.inRegion ops (i :: rest) :: k)).roundOf = none := hd
      rw [this] at hl; simp at hl
    · exact absurd hc (hd c)
  · rfl
variable {i : Nat} {rest : List Nat} {o : Oper}
theorem st_op_value (ho : ops[i]? = some o) (hw : Region.wanted o (yielded ops t) = true) (hd : notDefer b o) {v : Value} (hr : (execOp (evalT t) o).run P w = .ok (.value v) w') :
    step P (lone (fat b t d (.inRegion ops (i :: rest) :: k)) cs w) = .next (lone (fat b (putT t o.dst v) d (.inRegion ops rest :: k)) cs w') := by
  have hf := finish_fat b t d ops i rest k v
  rw [ho] at hf
  simp only [Option.bind_some] at hf
  rw [← hf]
  exact step_lone_go (by rw [stG_op ho hw hd]; simp [stepG.apply, hr])
theorem st_op_unit (ho : ops[i]? = some o) (hw : Region.wanted o (yielded ops t) = true) (hd : notDefer b o) (hr : (execOp (evalT t) o).run P w = .ok .skip w') :
    step P (lone (fat b t d (.inRegion ops (i :: rest) :: k)) cs w) = .next (lone (fat b (putT t o.dst undef) d (.inRegion ops rest :: k)) cs w') := by
  have hf := finish_fat b t d ops i rest k undef
  rw [ho] at hf
  simp only [Option.bind_some] at hf
  rw [← hf]
  exact step_lone_go (by rw [stG_op ho hw hd]; simp [stepG.apply, hr])
theorem st_op_panic (ho : ops[i]? = some o) (hw : Region.wanted o (yielded ops t) = true) (hd : notDefer b o) {v : Value} (hr : (execOp (evalT t) o).run P w = .halt (.panic v) w') :
    step P (lone (fat b t d (.inRegion ops (i :: rest) :: k)) cs w) = .next (lone { fat b t d (.inRegion ops (i :: rest) :: k) with mode := .panicking [{ v, recovered := false }] } cs w') :=
  step_lone_go (by rw [stG_op ho hw hd]; simp [stepG.apply, hr, Frame.raise, fat])
theorem st_op_enter (ho : ops[i]? = some o) (hw : Region.wanted o (yielded ops t) = true) (hd : notDefer b o) {f : FuncId} {args : Array Value} (hr : (execOp (evalT t) o).run P w = .ok (.enter f args) w') :
    step P (lone (fat b t d (.inRegion ops (i :: rest) :: k)) cs w) = .next (lone (Frame.enter P f args .normal) (fat b t d (.inRegion ops (i :: rest) :: k) :: cs) w') :=
  step_lone_go (by rw [stG_op ho hw hd]; simp [stepG.apply, hr, fat])
theorem st_op_round (ho : ops[i]? = some o) (hw : Region.wanted o (yielded ops t) = true) (hd : notDefer b o) {l : Nat} {f : FuncId} {t' : Array Value} {x y : Code} (hr : (execOp (evalT t) o).run P w = .ok (.round l f t' x y) w') :
    step P (lone (fat b t d (.inRegion ops (i :: rest) :: k)) cs w) = .next (lone (Frame.round l f t' x y .normal) (fat b t d (.inRegion ops (i :: rest) :: k) :: cs) w') :=
  step_lone_go (by rw [stG_op ho hw hd]; simp [stepG.apply, hr, fat])
theorem st_op_defer (ho : ops[i]? = some o) (hw : Region.wanted o (yielded ops t) = true) (hd : notDefer b o) {df : Deferred} (hr : (execOp (evalT t) o).run P w = .ok (.defer df) w') :
    step P (lone (fat b t d (.inRegion ops (i :: rest) :: k)) cs w) = .next (lone (fat b (putT t o.dst undef) (df :: d) (.inRegion ops rest :: k)) cs w') := by
  have hf := finish_fat b t (df :: d) ops i rest k undef
  rw [ho] at hf
  simp only [Option.bind_some] at hf
  rw [← hf]
  exact step_lone_go (by rw [stG_op ho hw hd]; simp [stepG.apply, hr, fat])
theorem st_op_recover (hro : b.roundOf = none) (ho : ops[i]? = some o) (hw : Region.wanted o (yielded ops t) = true) {v : Value} {cs' : List Frame} (hr : (execOp (evalT t) o).run P w = .ok .recover w')
    (ht : ∀ fr : Frame, fr.kind = b.kind → tryRecover fr cs = some (v, cs')) :
    step P (lone (fat b t d (.inRegion ops (i :: rest) :: k)) cs w) = .next (lone (fat b (putT t o.dst v) d (.inRegion ops rest :: k)) cs' w') := by
  have hf := finish_fat b t d ops i rest k v
  rw [ho] at hf
  simp only [Option.bind_some] at hf
  rw [← hf]
  have ht' := ht (fat b t d (.inRegion ops (i :: rest) :: k)) rfl
  exact step_lone_go (by rw [stG_op ho hw (.inl hro)]; simp [stepG.apply, hr, show (fat b t d (.inRegion ops (i :: rest) :: k)).roundOf = none from hro, ht'])
theorem st_op_recover_none (hro : b.roundOf = none) (ho : ops[i]? = some o) (hw : Region.wanted o (yielded ops t) = true) (hr : (execOp (evalT t) o).run P w = .ok .recover w')
    (ht : ∀ fr : Frame, fr.kind = b.kind → tryRecover fr cs = none) :
    step P (lone (fat b t d (.inRegion ops (i :: rest) :: k)) cs w) = .next (lone (fat b (putT t o.dst .nilIface) d (.inRegion ops rest :: k)) cs w') := by
  have hf := finish_fat b t d ops i rest k .nilIface
  rw [ho] at hf
  simp only [Option.bind_some] at hf
  rw [← hf]
  have ht' := ht (fat b t d (.inRegion ops (i :: rest) :: k)) rfl
  exact step_lone_go (by rw [stG_op ho hw (.inl hro)]; simp [stepG.apply, hr, show (fat b t d (.inRegion ops (i :: rest) :: k)).roundOf = none from hro, ht'])
end
end AM

/- What frames have in common; what a run comes to; one operation. -/
namespace AM
open Go

/-! ### Frames -/
def DR (ρ : Gh) : ADef → Deferred → Prop
  | .fn f as, d => ∃ c, d.target = .fn (.func f) c ∧ VRs ρ as (d.args ++ c).toList
  | .coll r, d => ∃ l, ρ r 0 = some l ∧ d.target = .collected l.block
inductive DRs (ρ : Gh) : List ADef → List Deferred → Prop
  | nil : DRs ρ [] []
  | cons {a : ADef} {d : Deferred} {l : List ADef} {l' : List Deferred} (h : DR ρ a d) (t : DRs ρ l l') : DRs ρ (a :: l) (d :: l')
theorem DR.mono {ρ ρ' : Gh} (h : ρ.le ρ') {a : ADef} {d : Deferred} (k : DR ρ a d) : DR ρ' a d := by
  cases a with
  | fn f as => obtain ⟨c, h1, h2⟩ := k; exact ⟨c, h1, h2.mono h⟩
  | coll r => obtain ⟨l, h1, h2⟩ := k; exact ⟨l, h _ _ _ h1, h2⟩
theorem DRs.mono {ρ ρ' : Gh} (h : ρ.le ρ') : ∀ {l : List ADef} {l' : List Deferred}, DRs ρ l l' → DRs ρ' l l'
  | _, _, .nil => .nil
  | _, _, .cons a t => .cons (a.mono h) (DRs.mono h t)
/-- The callers, when the panic of the first of them has been recovered. -/
def recd : List Frame → List Frame
  | [] => []
  | c :: cs => { c with mode := match c.mode with | .panicking (e :: older) => .panicking ({ e with recovered := true } :: older) | m => m } :: cs
def calOf (kind : CallKind) (cs : List Frame) (did : Bool) : List Frame := bif did && kind == .deferred then recd cs else cs
theorem calOf_normal (cs : List Frame) (did : Bool) : calOf .normal cs did = cs := by cases did <;> rfl
theorem calOf_false (kind : CallKind) (cs : List Frame) : calOf kind cs false = cs := rfl
structure PanR (ρ : Gh) (kind : CallKind) (cs : List Frame) (pan : Option AV) (did : Bool) : Prop where
  some : ∀ v, pan = some v → did = false ∧ kind = .deferred ∧ ∃ c rest v', cs = c :: rest ∧ c.mode = .panicking [{ v := v', recovered := false }] ∧ VR ρ v v'
  none : pan = none → ∀ fr : Frame, fr.kind = kind → tryRecover fr (calOf kind cs did) = none
theorem PanR.mono {ρ ρ' : Gh} (h : ρ.le ρ') {kind cs pan did} (k : PanR ρ kind cs pan did) : PanR ρ' kind cs pan did :=
  ⟨fun v hv => let ⟨a, b, c, r, v', x, y, z⟩ := k.some v hv; ⟨a, b, c, r, v', x, y, z.mono h⟩, k.none⟩
def RdR (ρ : Gh) : Option Nat → Option Nat → Prop
  | none, none => True
  | some o, some r => ∃ l, ρ o 0 = some l ∧ l.block = r
  | _, _ => False
theorem RdR.mono {ρ ρ' : Gh} (h : ρ.le ρ') {a b} (k : RdR ρ a b) : RdR ρ' a b := by
  cases a <;> cases b <;> try exact k
  obtain ⟨l, h1, h2⟩ := k; exact ⟨l, h _ _ _ h1, h2⟩
/-- Of the variables those that are told. -/
def VW (ρ : Gh) (vt : List Tmp) (vars : List AV) (tmps : Array Value) : Prop :=
  ∀ (j : Nat) (t : Tmp), vt[j]? = some t → t < tmps.size ∧ ∃ v, vars[j]? = some v ∧ (v = .und ∨ VR ρ v (tmps.getD t undef))
theorem VV.weak {ρ vt vars tmps} (h : VV ρ vt vars tmps) : VW ρ vt vars tmps := fun j t hj => let ⟨a, v, b, c⟩ := h j t hj; ⟨a, v, b, .inr c⟩
theorem VW.mono {ρ ρ' : Gh} (h : ρ.le ρ') {vt vars tmps} (k : VW ρ vt vars tmps) : VW ρ' vt vars tmps :=
  fun j t hj => let ⟨a, v, b, c⟩ := k j t hj; ⟨a, v, b, c.imp id (·.mono h)⟩
structure FrR (ρ : Gh) (vt : List Tmp) (nt : Nat) (rd : Option Nat) (fr : Fr) (b : Frame) (cs : List Frame) (t : Array Value) (d : List Deferred) : Prop where
  nodup : vt.Nodup
  ntle : nt ≤ t.size
  vv : VV ρ vt fr.vars t
  defers : DRs ρ fr.defers d
  pan : PanR ρ b.kind cs fr.pan fr.did
  round : RdR ρ rd b.roundOf
theorem FrR.mono {ρ ρ' : Gh} (h : ρ.le ρ') {vt nt rd fr b cs t d} (k : FrR ρ vt nt rd fr b cs t d) : FrR ρ' vt nt rd fr b cs t d :=
  ⟨k.nodup, k.ntle, k.vv.mono h, k.defers.mono h, k.pan.mono h, k.round.mono h⟩
structure FrW (ρ : Gh) (vt : List Tmp) (nt : Nat) (rd : Option Nat) (fr : Fr) (b : Frame) (cs : List Frame) (t : Array Value) (d : List Deferred) : Prop where
  ntle : nt ≤ t.size
  vv : VW ρ vt fr.vars t
  defers : DRs ρ fr.defers d
  pan : PanR ρ b.kind cs fr.pan fr.did
  round : RdR ρ rd b.roundOf
theorem FrR.weak {ρ vt nt rd fr b cs t d} (k : FrR ρ vt nt rd fr b cs t d) : FrW ρ vt nt rd fr b cs t d := ⟨k.ntle, k.vv.weak, k.defers, k.pan, k.round⟩

def noCall : List Item → Prop
  | .call _ _ _ _ :: _ => False
  | _ => True
def panEntry (v : Value) : List PanicEntry := [{ v, recovered := false }]
/-- What a run of code comes to. -/
def Lands (P : Program) (T : Tys) (ρ : Gh) (w : World) (vt : List Tmp) (nt : Nat) (rd : Option Nat) (b : Frame) (cs : List Frame) (k : List Item) (start : Machine) (e : Ex) (fr : Fr) (m : Mem) : Prop :=
  ∃ ρ' w' t' d', MR T ρ' m w' ∧ Adv ρ w ρ' w' ∧ match e with
    | .normal => FrR ρ' vt nt rd fr b cs t' d' ∧ Steps P start (lone (fat b t' d' k) (calOf b.kind cs fr.did) w')
    | .exit id => FrR ρ' vt nt rd fr b cs t' d' ∧ ∃ kk, exitTo id kk = exitTo id k ∧ Steps P start (lone (fat b t' d' (.code (.exit id) :: kk)) (calOf b.kind cs fr.did) w')
    | .ret => FrR ρ' vt nt rd fr b cs t' d' ∧ ∃ kk, Steps P start (lone (fat b t' d' (.code .ret :: kk)) (calOf b.kind cs fr.did) w')
    | .panic v => FrW ρ' vt nt rd fr b cs t' d' ∧ ∃ v' todo, noCall todo ∧ VR ρ' v v' ∧ Steps P start (lone { fat b t' d' todo with mode := .panicking (panEntry v') } (calOf b.kind cs fr.did) w')
theorem Lands.from {P T ρ w vt nt rd b cs k e fr m} {s s1 : Machine} {ρ1 : Gh} {w1 : World} (h : Steps P s s1) (ha : Adv ρ w ρ1 w1) (hl : Lands P T ρ1 w1 vt nt rd b cs k s1 e fr m) : Lands P T ρ w vt nt rd b cs k s e fr m := by
  obtain ⟨ρ', w', t', d', h1, h2, h3⟩ := hl
  refine ⟨ρ', w', t', d', h1, ha.trans h2, ?_⟩
  cases e with
  | normal => exact ⟨h3.1, h.trans h3.2⟩
  | exit id => obtain ⟨h4, kk, h5, h6⟩ := h3; exact ⟨h4, kk, h5, h.trans h6⟩
  | ret => obtain ⟨h4, kk, h6⟩ := h3; exact ⟨h4, kk, h.trans h6⟩
  | panic v => obtain ⟨h4, v', todo, h5, h6, h7⟩ := h3; exact ⟨h4, v', todo, h5, h6, h.trans h7⟩
/-- A function with a body of its own. -/
def Real (P : Program) (f : FuncId) : Prop := ∃ fn, P.funcs[f]? = some fn ∧ (fn.name == "runtime.NumGoroutine") = false ∧ fn.body.isNone = false
/-- What a call comes to. -/
def CallR (P : Program) (T : Tys) (ρ : Gh) (w : World) (f : FuncId) (kind : CallKind) (cs : List Frame) (start : Machine) (o : Out) (did : Bool) (m : Mem) : Prop :=
  ∃ ρ' w' fr, MR T ρ' m w' ∧ Adv ρ w ρ' w' ∧ fr.fn = f ∧ fr.kind = kind ∧ fr.defers = [] ∧ Steps P start (lone fr (calOf kind cs did) w') ∧ match o with
    | .ret v => fr.mode = .returning ∧ ∃ fn v', P.funcs[f]? = some fn ∧ (results fn fr.tmps).run P w' = .ok v' w' ∧ VR ρ' v v'
    | .panic v => ∃ v', fr.mode = .panicking (panEntry v') ∧ VR ρ' v v'
/-- What is asked of the runs behind. -/
structure RecOK (P : Program) (T : Tys) (rec : Rec) : Prop where
  code : ∀ {vt : List Tmp} {nt : Nat} {c : Code} {fr : Fr} {rd : Option Nat} {m : Mem} {e : Ex} {fr' : Fr} {m' : Mem}, rec (.code (comp T vt nt c) fr rd) m = some (.fr e fr', m') →
    ∀ {ρ : Gh} {w : World} {b : Frame} {cs : List Frame} {k : List Item} {t : Array Value} {d : List Deferred}, MR T ρ m w → FrR ρ vt nt rd fr b cs t d →
      Lands P T ρ w vt nt rd b cs k (lone (fat b t d (.code c :: k)) (calOf b.kind cs fr.did) w) e fr' m'
  loop : ∀ {vt : List Tmp} {nt : Nat} {c : Code} {fr : Fr} {rd : Option Nat} {m : Mem} {e : Ex} {fr' : Fr} {m' : Mem}, rec (.loop (comp T vt nt c) fr rd) m = some (.fr e fr', m') →
    ∀ {ρ : Gh} {w : World} {b : Frame} {cs : List Frame} {k : List Item} {t : Array Value} {d : List Deferred}, MR T ρ m w → FrR ρ vt nt rd fr b cs t d →
      Lands P T ρ w vt nt rd b cs k (lone (fat b t d (.code c :: .inLoop c :: k)) (calOf b.kind cs fr.did) w) e fr' m'
  call : ∀ {f : FuncId} {args : List AV} {pan : Option AV} {m : Mem} {o : Out} {did : Bool} {m' : Mem}, rec (.call f args pan) m = some (.out o did, m') →
    Real P f ∧ ∀ {ρ : Gh} {w : World} {kind : CallKind} {cs : List Frame} {args' : Array Value}, MR T ρ m w → VRs ρ args args'.toList → PanR ρ kind cs pan false →
      CallR P T ρ w f kind cs (lone (Frame.enter P f args' kind) cs w) o did m'

/-! ### One operation -/
/-- What an operation in a region comes to. -/
def OpLands (P : Program) (T : Tys) (ρ : Gh) (w : World) (b : Frame) (cs : List Frame) (t : Array Value) (dst : Option Tmp) (ops : Array Oper) (rest : List Nat) (k : List Item) (start : Machine) (r : OpR) (fr fr1 : Fr) (m1 : Mem) : Prop :=
  ∃ ρ' w' d', MR T ρ' m1 w' ∧ Adv ρ w ρ' w' ∧ fr1.vars = fr.vars ∧ DRs ρ' fr1.defers d' ∧ PanR ρ' b.kind cs fr1.pan fr1.did ∧ match r with
    | .val v => ∃ v', VR ρ' v v' ∧ Steps P start (lone (fat b (putT t dst v') d' (.inRegion ops rest :: k)) (calOf b.kind cs fr1.did) w')
    | .panic v => ∃ v' todo, noCall todo ∧ VR ρ' v v' ∧ Steps P start (lone { fat b t d' todo with mode := .panicking (panEntry v') } (calOf b.kind cs fr1.did) w')
end AM

/- One operation: the theorem. Printed by am17.py. -/
namespace AM
open Go

def isSpec : AOp → Bool
  | .call .. | .recov | .defer .. | .pan _ => true
  | _ => false
section
variable {P : Program} {T : Tys} {ρ : Gh} {vt : List Tmp} {nt : Nat} {ds : List (Option Tmp)} {s : List AV} {t : Array Value}
theorem comp_spec {op : Op} {a : AOp} (hc : compOp T vt ds op = some a) (hk : isSpec a = true) :
    (∃ f args types f' args', op = .call ⟨.value f, args, types⟩ ∧ compX vt ds f = some f' ∧ compXs vt ds args.toList = some args' ∧ a = .call f' args') ∨
    (∃ args types, op = .call ⟨.builtin .recover, args, types⟩ ∧ a = .recov) ∨
    (∃ f args types f' args', op = .defer ⟨.value f, args, types⟩ ∧ compX vt ds f = some f' ∧ compXs vt ds args.toList = some args' ∧ a = .defer f' args') ∨
    (∃ x x', op = .panic x ∧ compX vt ds x = some x' ∧ a = .pan x') := by
  cases op with
  | panic x =>
    simp only [compOp, Option.pure_def, Option.bind_eq_bind, Option.bind_eq_some_iff, Option.some.injEq] at hc
    obtain ⟨x', hx, rfl⟩ := hc
    exact .inr (.inr (.inr ⟨_, _, rfl, hx, rfl⟩))
  | defer c =>
    obtain ⟨callee, args, argTypes⟩ := c
    cases callee with
    | value f =>
      simp only [compOp, Option.pure_def, Option.bind_eq_bind, Option.bind_eq_some_iff, Option.some.injEq] at hc
      obtain ⟨f', hf, as, has, rfl⟩ := hc
      exact .inr (.inr (.inl ⟨_, _, _, _, _, rfl, hf, has, rfl⟩))
    | _ => simp [compOp] at hc
  | call c =>
    obtain ⟨callee, args, argTypes⟩ := c
    cases callee with
    | value f =>
      simp only [compOp, Option.pure_def, Option.bind_eq_bind, Option.bind_eq_some_iff, Option.some.injEq] at hc
      obtain ⟨f', hf, as, has, rfl⟩ := hc
      exact .inl ⟨_, _, _, _, _, rfl, hf, has, rfl⟩
    | invoke r m => simp [compOp] at hc
    | builtin b =>
      cases b
      case len =>
        simp only [compOp] at hc
        split at hc <;> first | (simp_all; done) | skip
        simp only [Option.pure_def, Option.bind_eq_bind, Option.bind_eq_some_iff] at hc
        obtain ⟨ty, hty, hc⟩ := hc
        split at hc <;> first | (simp at hc; done) | skip
        all_goals
          simp only [Option.bind_eq_some_iff, Option.some.injEq] at hc
          obtain ⟨x', hx, rfl⟩ := hc
          simp [isSpec] at hk
      case min =>
        simp only [compOp] at hc
        split at hc <;> first | (simp_all; done) | skip
        simp only [Option.pure_def, Option.bind_eq_bind, Option.bind_eq_some_iff, Option.some.injEq] at hc
        obtain ⟨_, _, _, _, rfl⟩ := hc
        simp [isSpec] at hk
      case max =>
        simp only [compOp] at hc
        split at hc <;> first | (simp_all; done) | skip
        simp only [Option.pure_def, Option.bind_eq_bind, Option.bind_eq_some_iff, Option.some.injEq] at hc
        obtain ⟨_, _, _, _, rfl⟩ := hc
        simp [isSpec] at hk
      case recover =>
        simp only [compOp, Option.pure_def, Option.some.injEq] at hc
        subst hc
        exact .inr (.inl ⟨_, _, rfl, rfl⟩)
      case append =>
        simp only [compOp] at hc
        split at hc <;> first | (simp_all; done) | skip
        simp only [Option.pure_def, Option.bind_eq_bind, Option.bind_eq_some_iff] at hc
        obtain ⟨⟨e, te⟩, _, uy, _, hc⟩ := hc
        split at hc
        · simp only [Option.bind_eq_some_iff, Option.some.injEq] at hc
          obtain ⟨_, _, _, _, rfl⟩ := hc
          simp [isSpec] at hk
        · simp only [Option.bind_eq_some_iff, Option.some.injEq] at hc
          obtain ⟨_, _, _, _, rfl⟩ := hc
          simp [isSpec] at hk
        · simp at hc
      case copy =>
        simp only [compOp] at hc
        split at hc <;> first | (simp_all; done) | skip
        simp only [Option.pure_def, Option.bind_eq_bind, Option.bind_eq_some_iff, Option.some.injEq] at hc
        obtain ⟨⟨e, te⟩, _, _, _, _, _, rfl⟩ := hc
        simp [isSpec] at hk
      case clear =>
        simp only [compOp] at hc
        split at hc <;> first | (simp_all; done) | skip
        simp only [Option.pure_def, Option.bind_eq_bind, Option.bind_eq_some_iff, Option.some.injEq] at hc
        obtain ⟨⟨e, te⟩, _, _, _, rfl⟩ := hc
        simp [isSpec] at hk
      all_goals (simp [compOp] at hc; done)
  | move x =>
    simp only [compOp, Option.pure_def, Option.bind_eq_bind, Option.bind_eq_some_iff, Option.some.injEq] at hc
    obtain ⟨_, _, rfl⟩ := hc
    simp [isSpec] at hk
  | assign x =>
    simp only [compOp, Option.pure_def, Option.bind_eq_bind, Option.bind_eq_some_iff, Option.some.injEq] at hc
    obtain ⟨_, _, rfl⟩ := hc
    simp [isSpec] at hk
  | pick c x y =>
    simp only [compOp, Option.pure_def, Option.bind_eq_bind, Option.bind_eq_some_iff, Option.some.injEq] at hc
    obtain ⟨_, _, _, _, _, _, rfl⟩ := hc
    simp [isSpec] at hk
  | build t parts =>
    simp only [compOp, Option.pure_def, Option.bind_eq_bind, Option.bind_eq_some_iff] at hc
    obtain ⟨ty, hty, hc⟩ := hc
    split at hc
    · simp only [Option.bind_eq_some_iff, Option.some.injEq] at hc
      obtain ⟨_, _, rfl⟩ := hc
      simp [isSpec] at hk
    · simp at hc
  | nilCheck x =>
    simp only [compOp, Option.pure_def, Option.bind_eq_bind, Option.bind_eq_some_iff, Option.some.injEq] at hc
    obtain ⟨_, _, rfl⟩ := hc
    simp [isSpec] at hk
  | binOp bop t x y yt =>
    simp only [compOp, Option.pure_def, Option.bind_eq_bind, Option.bind_eq_some_iff, Option.some.injEq] at hc
    obtain ⟨_, _, _, _, rfl⟩ := hc
    simp [isSpec] at hk
  | unOp u t x =>
    simp only [compOp, Option.pure_def, Option.bind_eq_bind, Option.bind_eq_some_iff, Option.some.injEq] at hc
    obtain ⟨_, _, rfl⟩ := hc
    simp [isSpec] at hk
  | makeInterface t x =>
    simp only [compOp, Option.pure_def, Option.bind_eq_bind, Option.bind_eq_some_iff] at hc
    obtain ⟨ty, hty, hc⟩ := hc
    split at hc
    · simp at hc
    · simp at hc
    · simp only [Option.bind_eq_some_iff, Option.some.injEq] at hc
      obtain ⟨_, _, rfl⟩ := hc
      simp [isSpec] at hk
  | makeFunc f first captured =>
    cases f with
    | func f =>
      simp only [compOp] at hc
      split at hc
      · simp only [Option.pure_def, Option.bind_eq_bind, Option.bind_eq_some_iff, Option.some.injEq] at hc
        obtain ⟨_, _, rfl⟩ := hc
        simp [isSpec] at hk
      · simp at hc
    | _ => simp [compOp] at hc
  | slice t x lo hi mx =>
    cases mx with
    | some m => simp [compOp] at hc
    | none =>
      simp only [compOp, Option.pure_def, Option.bind_eq_bind, Option.bind_eq_some_iff] at hc
      obtain ⟨ty, hty, hc⟩ := hc
      split at hc
      · simp only [Option.bind_eq_some_iff, Option.some.injEq] at hc
        obtain ⟨_, _, _, _, _, _, rfl⟩ := hc
        simp [isSpec] at hk
      · simp only [Option.bind_eq_some_iff, Option.some.injEq] at hc
        obtain ⟨⟨_, _⟩, _, _, _, _, _, _, _, rfl⟩ := hc
        simp [isSpec] at hk
  | fieldAddr t x f =>
    simp only [compOp, Option.pure_def, Option.bind_eq_bind, Option.bind_eq_some_iff] at hc
    obtain ⟨ty, hty, hc⟩ := hc
    split at hc
    · simp only [Option.bind_eq_some_iff] at hc
      obtain ⟨fl, hfl, hc⟩ := hc
      by_cases h0 : fl.size = 0
      · simp [h0] at hc
      simp only [nbeq, h0, decide_false, cond_false, Option.some.injEq] at hc
      obtain ⟨_, _, rfl⟩ := hc
      simp [isSpec] at hk
    · simp at hc
  | field t x f =>
    simp only [compOp, Option.pure_def, Option.bind_eq_bind, Option.bind_eq_some_iff] at hc
    obtain ⟨ty, hty, hc⟩ := hc
    split at hc
    · simp only [Option.bind_eq_some_iff, Option.some.injEq] at hc
      obtain ⟨_, _, _, _, rfl⟩ := hc
      simp [isSpec] at hk
    · simp at hc
  | indexAddr t x i =>
    simp only [compOp, Option.pure_def, Option.bind_eq_bind, Option.bind_eq_some_iff, Option.some.injEq] at hc
    obtain ⟨⟨_, _⟩, _, _, _, _, _, rfl⟩ := hc
    simp [isSpec] at hk
  | index t x i =>
    simp only [compOp, Option.pure_def, Option.bind_eq_bind, Option.bind_eq_some_iff] at hc
    obtain ⟨ty, hty, hc⟩ := hc
    split at hc
    · simp only [Option.bind_eq_some_iff, Option.some.injEq] at hc
      obtain ⟨_, _, _, _, rfl⟩ := hc
      simp [isSpec] at hk
    · simp at hc
  | extract x i =>
    simp only [compOp, Option.pure_def, Option.bind_eq_bind, Option.bind_eq_some_iff, Option.some.injEq] at hc
    obtain ⟨_, _, rfl⟩ := hc
    simp [isSpec] at hk
  | typeAssert x xt t ok =>
    simp only [compOp, Option.pure_def, Option.bind_eq_bind, Option.bind_eq_some_iff] at hc
    obtain ⟨ty, hty, hc⟩ := hc
    split at hc
    · simp at hc
    · simp at hc
    · simp only [Option.bind_eq_some_iff, Option.some.injEq] at hc
      obtain ⟨_, _, rfl⟩ := hc
      simp [isSpec] at hk
  | load t x =>
    simp only [compOp, Option.pure_def, Option.bind_eq_bind, Option.bind_eq_some_iff] at hc
    obtain ⟨ty, _, hc⟩ := hc
    split at hc
    · simp at hc
    · simp only [Option.bind_eq_some_iff, Option.some.injEq] at hc
      obtain ⟨_, _, rfl⟩ := hc
      simp [isSpec] at hk
  | lookup t x k ok =>
    simp only [compOp, Option.pure_def, Option.bind_eq_bind, Option.bind_eq_some_iff] at hc
    obtain ⟨ty, _, hc⟩ := hc
    split at hc
    · simp only [Option.bind_eq_some_iff, Option.some.injEq] at hc
      obtain ⟨_, _, _, _, _, _, rfl⟩ := hc
      simp [isSpec] at hk
    · simp at hc
  | alloc e =>
    simp only [compOp, Option.pure_def, Option.bind_eq_bind, Option.bind_eq_some_iff, Option.some.injEq] at hc
    obtain ⟨_, _, rfl⟩ := hc
    simp [isSpec] at hk
  | box e x =>
    simp only [compOp, Option.pure_def, Option.bind_eq_bind, Option.bind_eq_some_iff, Option.some.injEq] at hc
    obtain ⟨_, _, rfl⟩ := hc
    simp [isSpec] at hk
  | buildSlice t n parts =>
    simp only [compOp, Option.pure_def, Option.bind_eq_bind, Option.bind_eq_some_iff] at hc
    obtain ⟨⟨e, te⟩, _, hc⟩ := hc
    cases hb : (n * te.size).ble 16777216
    · simp [hb] at hc
    · simp only [hb, cond_true, Option.some.injEq] at hc
      obtain ⟨_, _, rfl⟩ := hc
      simp [isSpec] at hk
  | makeSlice t l c =>
    simp only [compOp, Option.pure_def, Option.bind_eq_bind, Option.bind_eq_some_iff, Option.some.injEq] at hc
    obtain ⟨_, _, _, _, _, _, rfl⟩ := hc
    simp [isSpec] at hk
  | makeMap t r =>
    cases r with
    | none => simp only [compOp, Option.pure_def, Option.some.injEq] at hc; subst hc; simp [isSpec] at hk
    | some r => simp [compOp] at hc
  | store t x y =>
    simp only [compOp, Option.pure_def, Option.bind_eq_bind, Option.bind_eq_some_iff, Option.some.injEq] at hc
    obtain ⟨_, _, _, _, _, _, rfl⟩ := hc
    simp [isSpec] at hk
  | mapUpdate t x k v =>
    simp only [compOp, Option.pure_def, Option.bind_eq_bind, Option.bind_eq_some_iff] at hc
    obtain ⟨ty, _, hc⟩ := hc
    split at hc
    · simp only [Option.bind_eq_some_iff, Option.some.injEq] at hc
      obtain ⟨_, _, _, _, _, _, rfl⟩ := hc
      simp [isSpec] at hk
    · simp at hc
  | insert t x k v =>
    simp only [compOp, Option.pure_def, Option.bind_eq_bind, Option.bind_eq_some_iff] at hc
    obtain ⟨ty, _, hc⟩ := hc
    split at hc
    · simp only [Option.bind_eq_some_iff, Option.some.injEq] at hc
      obtain ⟨_, _, _, _, _, _, rfl⟩ := hc
      simp [isSpec] at hk
    · simp at hc
  | convert src dst x =>
    simp only [compOp, Option.pure_def, Option.bind_eq_bind, Option.bind_eq_some_iff] at hc
    obtain ⟨sy, hsy, dy, hdy, hc⟩ := hc
    split at hc
    · simp only [Option.bind_eq_some_iff, Option.some.injEq] at hc
      obtain ⟨x', hx, rfl⟩ := hc
      simp [isSpec] at hk
    · simp only [Option.bind_eq_some_iff, Option.some.injEq] at hc
      obtain ⟨x', hx, rfl⟩ := hc
      simp [isSpec] at hk
    · simp only [Option.bind_eq_some_iff] at hc
      obtain ⟨te, _, hc⟩ := hc
      split at hc
      · simp only [Option.bind_eq_some_iff, Option.some.injEq] at hc
        obtain ⟨x', hx, rfl⟩ := hc
        simp [isSpec] at hk
      · simp at hc
    · simp only [Option.bind_eq_some_iff] at hc
      obtain ⟨te, _, hc⟩ := hc
      split at hc
      · simp only [Option.bind_eq_some_iff, Option.some.injEq] at hc
        obtain ⟨x', hx, rfl⟩ := hc
        simp [isSpec] at hk
      · simp at hc
    · simp only [Option.bind_eq_some_iff] at hc
      obtain ⟨te, _, hc⟩ := hc
      split at hc
      · cases hb : src.beq dst
        · simp [hb] at hc
        · simp only [hb, cond_true, Option.bind_eq_some_iff, Option.some.injEq] at hc
          obtain ⟨x', hx, rfl⟩ := hc
          simp [isSpec] at hk
      · simp at hc
    · simp at hc
  | _ => simp [compOp] at hc
theorem comp_notDefer {c : Go.Call} {a : AOp} (hc : compOp T vt ds (.defer c) = some a) : isSpec a = true := by
  obtain ⟨callee, args, argTypes⟩ := c
  cases callee with
  | value f =>
    simp only [compOp, Option.pure_def, Option.bind_eq_bind, Option.bind_eq_some_iff, Option.some.injEq] at hc
    obtain ⟨f', hf, as, has, rfl⟩ := hc
    rfl
  | _ => simp [compOp] at hc
theorem AllocR.run {m : Mem} {w : World} {sm : Sem Next} {x : Obj} {f : Nat → AV} (h : AllocR T P ρ sm x f w) (H : MR T ρ m w) :
    ∃ v' w' ρ', sm.run P w = .ok (.value v') w' ∧ MR T ρ' (m.push x) w' ∧ Adv ρ w ρ' w' ∧ NextR ρ' (f m.next) (.value v') := by
  obtain ⟨w', y, v', l, h1, h2, h3, h4, h5, h6, h7, h8⟩ := h.go
  have hnone : ∀ g, ρ m.next g = none := fun g => by
    cases h : ρ m.next g with
    | none => rfl
    | some l => exact absurd (H.dom _ _ _ h) (Nat.lt_irrefl _)
  have hle := Gh.le_add (ρ := ρ) (o := m.next) (g := 0) l (hnone 0)
  obtain ⟨h9, h10⟩ := h8 (ρ.add m.next 0 l) m.next (World.push w y) hle (Gh.add_same _ _ _ _) (fun g hg => by rw [Gh.add_ne _ _ (by omega)]; exact hnone g) (push_new w y)
  obtain ⟨hM, _⟩ := H.push x y l h6 h9
  have hA := Adv.push H y l h6 h7
  have hh : w'.heap = (World.push w y).heap := h2
  refine ⟨v', w', _, h1, hM.heap hh, ⟨hA.le, hA.new, h3, h4, h5, by rw [hh]; exact hA.keep.size, by rw [hh]; exact hA.keep.block⟩, h10⟩
theorem evs_map {vars : List AV} (hs : SR ρ vt nt ds s vars t) : ∀ {l : List Operand} {l' : List AX}, compXs vt ds l = some l' → VRs ρ (evs s vars l') (l.map (evalT t))
  | [], l', h => by simp [compXs] at h; subst h; exact .nil
  | x :: l, l', h => by
    simp only [compXs] at h
    split at h <;> simp only [Option.some.injEq, reduceCtorEq] at h
    rename_i a r h1 h2
    subst h
    exact .cons (ev_ok hs h1) (evs_map hs h2)
/-- What an operation of its own class comes to. -/
theorem plain_run (hT : TysOK P T) {rec : Rec} {rd : Option Nat} {fr fr1 : Fr} {m m1 : Mem} {w : World} (H : MR T ρ m w) (hs : SR ρ vt nt ds s fr.vars t) {o : Oper} {a : AOp} (hc : compOp T vt ds o.op = some a) (hk : isSpec a = false) {r : OpR}
    (h : opRun T rec rd s a fr m = some (r, fr1, m1)) :
    fr1 = fr ∧ ∃ v nx w' ρ', r = .val v ∧ (execOp (evalT t) o).run P w = .ok nx w' ∧ MR T ρ' m1 w' ∧ Adv ρ w ρ' w' ∧ NextR ρ' v nx := by
  have hop : opRun T rec rd s a fr m = (match cls a with
    | .pure => match pureOp T s fr.vars a with
      | some v => some (.val v, fr, m)
      | none => none
    | .read => match readOp T s fr.vars a m with
      | some v => some (.val v, fr, m)
      | none => none
    | .alloc => match allocOp s fr.vars a m with
      | some (v, m) => some (.val v, fr, m)
      | none => none
    | .eff => match effOp T s fr.vars a m with
      | some (v, m) => some (.val v, fr, m)
      | none => none) := by
    cases a <;> first | rfl | simp [isSpec] at hk
  rw [hop] at h
  split at h
  · rename_i hcl
    split at h <;> simp only [Option.some.injEq, Prod.mk.injEq, reduceCtorEq] at h
    rename_i v hv
    obtain ⟨rfl, rfl, rfl⟩ := h
    obtain ⟨v', h1, h2⟩ := pure_ok (P := P) (w := w) hT hs hc hcl hv
    exact ⟨rfl, v, _, w, ρ, rfl, h1, H, .refl _ _, h2⟩
  · rename_i hcl
    split at h <;> simp only [Option.some.injEq, Prod.mk.injEq, reduceCtorEq] at h
    rename_i v hv
    obtain ⟨rfl, rfl, rfl⟩ := h
    obtain ⟨v', h1, h2⟩ := read_ok (P := P) hT H hs hc hcl hv
    exact ⟨rfl, v, _, w, ρ, rfl, h1, H, .refl _ _, h2⟩
  · rename_i hcl
    split at h <;> simp only [Option.some.injEq, Prod.mk.injEq, reduceCtorEq] at h
    rename_i v m' hv
    obtain ⟨rfl, rfl, rfl⟩ := h
    rw [allocOp_eq] at hv
    cases hp : allocP s fr.vars a with
    | none => rw [hp] at hv; simp at hv
    | some p =>
      obtain ⟨x, f⟩ := p
      rw [hp] at hv
      simp only [Option.map_some, Option.some.injEq, Prod.mk.injEq] at hv
      obtain ⟨rfl, rfl⟩ := hv
      obtain ⟨v', w', ρ', h1, h2, h3, h4⟩ := (alloc_spec (P := P) hT hs hc hcl hp w).run H
      exact ⟨rfl, _, _, w', ρ', rfl, h1, h2, h3, h4⟩
  · rename_i hcl
    split at h <;> simp only [Option.some.injEq, Prod.mk.injEq, reduceCtorEq] at h
    rename_i v m' hv
    obtain ⟨rfl, rfl, rfl⟩ := h
    obtain ⟨nx, w', ρ', h1, h2, h3, h4⟩ := eff_ok (P := P) hT H hs hc hv
    exact ⟨rfl, v, nx, w', ρ', rfl, h1, h2, h3, h4⟩
end
end AM

/- One operation in a region. -/
namespace AM
open Go
section
variable {P : Program} {T : Tys} {ρ : Gh}
theorem PanR.normal (cs : List Frame) (did : Bool) : PanR ρ .normal cs Option.none did :=
  ⟨fun _ h => by simp at h, fun _ fr hk => by unfold tryRecover; rw [hk]⟩
/-- The frame that a call begins with. -/
def begin (P : Program) (kind : CallKind) : Next → Option Frame
  | .enter f as => some (Frame.enter P f as kind)
  | .round l f t x y => some (Frame.round l f t x y kind)
  | _ => none
def callSem (f : Value) (args : Array Value) : Sem Next := do
  let d ← Deferred.ofValue f args
  invoke d.target d.args
theorem foldl_params : ∀ (vt : List Tmp) (ps : List Tmp) (qs : List Nat) (as : List AV) (as' : List Value) (vars : List AV) (t : Array Value), vt.Nodup → ps.mapM (idxIn · vt) = some qs → VRs ρ as as' → as.length = qs.length → VV ρ vt vars t →
    VV ρ vt (setParams vars qs as) ((ps.zip as').foldl (fun (t : Array Value) (p : Tmp × Value) => t.setIfInBounds p.1 p.2) t) ∧ ((ps.zip as').foldl (fun (t : Array Value) (p : Tmp × Value) => t.setIfInBounds p.1 p.2) t).size = t.size
  | vt, [], qs, as, as', vars, t, _, h, _, _, hv => by
    simp at h; subst h
    cases as <;> exact ⟨by simpa [setParams] using hv, by simp⟩
  | vt, p :: ps, qs, as, as', vars, t, hn, h, ha, hl, hv => by
    simp only [List.mapM_cons, Option.bind_eq_bind, Option.bind_eq_some_iff, Option.pure_def, Option.some.injEq] at h
    obtain ⟨j, hj, qs', hqs, rfl⟩ := h
    cases ha with
    | nil => simp at hl
    | cons h1 h2 =>
      rename_i a a' as as'
      have hjt := idxIn_some hj
      have hv' : VV ρ vt (upd vars j a) (t.setIfInBounds p a') := by
        intro i u hi
        obtain ⟨h3, v, h4, h5⟩ := hv i u hi
        refine ⟨by simpa using h3, ?_⟩
        by_cases hij : j = i
        · subst hij
          obtain rfl : p = u := by rw [hjt] at hi; simpa using hi
          have hlt : j < vars.length := (List.getElem?_eq_some_iff.1 h4).1
          refine ⟨a, by rw [upd_eq]; simp [hlt], ?_⟩
          simp [Array.getD_eq_getD_getElem?, h3]; exact h1
        · have hpu : p ≠ u := by
            rintro rfl
            have h6 := List.getElem?_eq_some_iff.1 hjt
            have h7 := List.getElem?_eq_some_iff.1 hi
            obtain ⟨l1, e1⟩ := h6
            obtain ⟨l2, e2⟩ := h7
            have h10 := List.pairwise_iff_getElem.1 hn
            rcases Nat.lt_or_gt_of_ne hij with h11 | h11
            · exact h10 _ _ l1 l2 h11 (e1.trans e2.symm)
            · exact h10 _ _ l2 l1 h11 (e2.trans e1.symm)
          refine ⟨v, by rw [upd_eq, List.getElem?_set_ne hij]; exact h4, ?_⟩
          simpa [Array.getD_eq_getD_getElem?, Array.getElem?_setIfInBounds_ne hpu] using h5
      obtain ⟨h8, h9⟩ := foldl_params vt ps qs' as as' (upd vars j a) (t.setIfInBounds p a') hn hqs h2 (by simpa using hl) hv'
      exact ⟨by simpa [setParams] using h8, by simpa using h9⟩
theorem st_begin {b : Frame} {t : Array Value} {d : List Deferred} {k : List Item} {cs : List Frame} {w : World} {l : Nat} {L : Loop} (hb : b.roundOf = some l) (h : w.heap[l]? = some (.loop L)) (hs : L.state = .ready) :
    step P (lone (fat b t d (.beginRound :: k)) cs w) = .next (lone (fat b t d k) cs (World.obj w l (.loop { L with state := .busy }))) := by
  have h1 : (Instr.getLoop l).run P w = .ok L w := by simp only [Instr.getLoop, Sem.run_bind, run_getObj h (by simp), Result.andThen_ok, Sem.run_pure]
  have h2 : (Instr.beginRound l).run P w = .ok () (World.obj w l (.loop { L with state := .busy })) := by
    simp only [Instr.beginRound, Sem.run_bind, h1, Result.andThen_ok, run_setObj h (by simp), hs, Sem.run_pure]
  exact step_lone_go (by simp [stepG, stepG.exec, stepG.apply, fat, hb, h2, Frame.finish])
theorem st_leave {b : Frame} {t : Array Value} {d : List Deferred} {todo : List Item} {c : Frame} {cs : List Frame} {w : World} {l : Nat} {L : Loop} (hb : b.roundOf = some l) (hk : b.kind = .normal) (h : w.heap[l]? = some (.loop L)) {jump : Option Code}
    (ht : (todo = [] ∧ jump = none) ∨ (∃ kk, todo = .code .ret :: kk ∧ jump = some .ret) ∨ (∃ id kk, todo = .code (.exit id) :: kk ∧ exitTo id kk = none ∧ jump = some (.exit id))) :
    step P (lone (fat b t d todo) (c :: cs) w) = .next (lone (c.finish (.bool jump.isNone)) cs (World.obj w l (.loop { L with state := if jump.isNone then .ready else .done, pending := jump }))) := by
  have h1 : (Instr.getLoop l).run P w = .ok L w := by simp only [Instr.getLoop, Sem.run_bind, run_getObj h (by simp), Result.andThen_ok, Sem.run_pure]
  have h2 : (Instr.endRound l jump).run P w = .ok (.bool jump.isNone) (World.obj w l (.loop { L with state := if jump.isNone then .ready else .done, pending := jump })) := by
    simp only [Instr.endRound, Sem.run_bind, h1, Result.andThen_ok, run_setObj h (by simp), Sem.run_pure]
  rcases ht with ⟨rfl, rfl⟩ | ⟨kk, rfl, rfl⟩ | ⟨id, kk, rfl, he, rfl⟩
  · exact step_lone_go (by simp [stepG, stepG.exec, fat, hb, h2, doReturn, hk])
  · exact step_lone_go (by simp [stepG, stepG.exec, fat, hb, h2, doReturn, hk])
  · exact step_lone_go (by simp [stepG, stepG.exec, fat, hb, h2, doReturn, hk, he])
theorem st_unwound {b : Frame} {t : Array Value} {todo : List Item} {c : Frame} {cs : List Frame} {w : World} {chain : List PanicEntry} (hn : noCall todo) :
    step P (lone { fat b t [] todo with mode := .panicking chain } (c :: cs) w) = .next (lone (c.raise chain) cs w) := by
  have hc : Frame.catches P { fat b t [] todo with mode := .panicking chain } = false := by
    unfold Frame.catches
    split
    · rename_i h
      simp only [fat] at h
      subst h
      simp [noCall] at hn
    · rfl
  exact step_lone_go (by simp only [stepG, unwind, hc]; simp [fat])
/-- A call of a function value, whoever makes it. -/
theorem callV_sound {rec : Rec} (hrec : RecOK P T rec) {m m1 : Mem} {w : World} (H : MR T ρ m w) {f : AV} {f' : Value} (hf : VR ρ f f') {args : List AV} {args' : Array Value} (ha : VRs ρ args args'.toList) {r : OpR} (h : callV rec f args m = some (r, m1)) :
    ∃ nx, (callSem f' args').run P w = .ok nx w ∧ ∃ fr0, begin P .normal nx = some fr0 ∧ ∀ (c : Frame) (cs : List Frame), ∃ ρ' w', MR T ρ' m1 w' ∧ Adv ρ w ρ' w' ∧ match r with
      | .val v => ∃ v', VR ρ' v v' ∧ Steps P (lone fr0 (c :: cs) w) (lone (c.finish v') cs w')
      | .panic v => ∃ v', VR ρ' v v' ∧ Steps P (lone fr0 (c :: cs) w) (lone (c.raise (panEntry v')) cs w') := by
  cases f with
  | fn fid captured =>
    simp only [callV] at h
    obtain ⟨cap', rfl, hcap⟩ := hf.fn_inv
    have hargs : VRs ρ (args ++ captured) (args' ++ cap').toList := by simpa using ha.append hcap
    have key : ∀ {o : Out} {did : Bool} {m' : Mem}, rec (.call fid (args ++ captured) none) m = some (.out o did, m') → 
        ∃ nx, (callSem (.func (.func fid) #[] cap') args').run P w = .ok nx w ∧ ∃ fr0, begin P .normal nx = some fr0 ∧ ∀ cs, CallR P T ρ w fid .normal cs (lone fr0 cs w) o did m' := by
      intro o did m' hr
      obtain ⟨⟨fn, h1, h2, h3⟩, h4⟩ := hrec.call hr
      refine ⟨.enter fid (args' ++ cap'), ?_, _, rfl, fun cs => h4 H hargs (PanR.normal cs false)⟩
      simp only [callSem, Deferred.ofValue, Sem.run_bind, Sem.run_pure, Result.andThen_ok, invoke, callFunc, run_program, h1, h2, h3, Bool.false_eq_true, if_false, Array.empty_append]
    split at h
    · rename_i v did m' hr
      simp only [Option.some.injEq, Prod.mk.injEq] at h
      obtain ⟨rfl, rfl⟩ := h
      obtain ⟨nx, h1, fr0, h2, h3⟩ := key hr
      refine ⟨nx, h1, fr0, h2, fun c cs => ?_⟩
      obtain ⟨ρ', w', fr, h4, h5, h6, h7, h8, h9, h10, fn, v', h11, h12, h13⟩ := h3 (c :: cs)
      rw [calOf_normal] at h9
      exact ⟨ρ', w', h4, h5, v', h13, h9.trans (.one (step_leave_returned ⟨h10, h8, h7, fn, h6 ▸ h11, h12⟩))⟩
    · rename_i v did m' hr
      simp only [Option.some.injEq, Prod.mk.injEq] at h
      obtain ⟨rfl, rfl⟩ := h
      obtain ⟨nx, h1, fr0, h2, h3⟩ := key hr
      obtain ⟨⟨fn, h20, _, _⟩, _⟩ := hrec.call hr
      refine ⟨nx, h1, fr0, h2, fun c cs => ?_⟩
      obtain ⟨ρ', w', fr, h4, h5, h6, h7, h8, h9, v', h10, h11⟩ := h3 (c :: cs)
      rw [calOf_normal] at h9
      exact ⟨ρ', w', h4, h5, v', h11, h9.trans (.one (step_leave_panicked ⟨h10, h8, fn, h6 ▸ h20⟩))⟩
    · simp at h
  | yld lo =>
    simp only [callV] at h
    split at h
    case h_2 => simp at h
    rename_i pend vars params assign code dfr hget
    obtain ⟨l, L, hl, hrw, hheap, hL⟩ := H.obj lo _ hget
    obtain ⟨vt, nt, hnd, hvv, hps, has, hbody, hnt⟩ := hL.code
    have hf' : f' = .func (.yield l.block) #[] #[] := by
      cases hf with
      | yld h1 => rw [hl] at h1; simp at h1; rw [h1]
    subst hf'
    cases hlen : args.length.beq params.length
    · simp [hlen] at h
    simp only [hlen, cond_true] at h
    simp only [nbeq, decide_eq_true_eq] at hlen
    split at h
    case h_2 => simp at h
    rename_i fr1 m1' hr1
    split at h
    case h_2 => simp at h
    rename_i pend2 vars2 params2 assign2 body2 dfr2 hget2
    split at h
    case h_2 => simp at h
    rename_i e fr2 m2' hr2
    split at h
    case h_2 => simp at h
    rename_i hdef
    -- the round's frame
    have hplen : L.params.toList.length = params.length := by
      have : ∀ (ps : List Tmp) (qs : List Nat), ps.mapM (idxIn · vt) = some qs → ps.length = qs.length := by
        intro ps
        induction ps with
        | nil => intro qs h; simp at h; subst h; rfl
        | cons p ps ih =>
          intro qs h
          simp only [List.mapM_cons, Option.bind_eq_bind, Option.bind_eq_some_iff, Option.pure_def, Option.some.injEq] at h
          obtain ⟨_, _, qs', h, rfl⟩ := h
          simp [ih _ h]
      exact this _ _ hps
    have hargl : args'.size = L.params.size := by
      have h1 := ha.length
      simp only [Array.length_toList] at h1 hplen
      omega
    have hgl : (Instr.getLoop l.block).run P w = .ok L w := by simp only [Instr.getLoop, Sem.run_bind, run_getObj hheap (by simp), Result.andThen_ok, Sem.run_pure]
    obtain ⟨hv1, hv2⟩ := foldl_params vt L.params.toList params args args'.toList vars L.tmps hnd hps ha hlen hvv
    have hfold : (L.params.zip args').foldl (fun (t : Array Value) (p : Tmp × Value) => t.setIfInBounds p.1 p.2) L.tmps = (L.params.toList.zip args'.toList).foldl (fun (t : Array Value) (p : Tmp × Value) => t.setIfInBounds p.1 p.2) L.tmps := by
      rw [← Array.foldl_toList, Array.toList_zip]
    generalize hT0 : (L.params.toList.zip args'.toList).foldl (fun (t : Array Value) (p : Tmp × Value) => t.setIfInBounds p.1 p.2) L.tmps = t0 at hv1 hv2 hfold
    let b : Frame := { (default : Frame) with fn := L.fn, kind := .normal, roundOf := some l.block }
    refine ⟨.round l.block L.fn t0 L.assign L.body, ?_, fat b t0 [] [.code L.assign, .beginRound, .code L.body], rfl, fun c cs => ?_⟩
    · simp only [callSem, Deferred.ofValue, Sem.run_bind, Sem.run_pure, Result.andThen_ok, invoke, Instr.yield, hgl, Array.empty_append, hargl, ne_eq, not_true_eq_false, if_false, hfold]
    · have hfr0 : FrR ρ vt nt (some lo) { vars := setParams vars params args, defers := [], pan := none, did := false } b (c :: cs) t0 [] :=
        ⟨hnd, by rw [hv2]; exact hnt, hv1, .nil, PanR.normal _ _, ⟨l, hl, rfl⟩⟩
      rw [has] at hr1
      obtain ⟨ρ1, w1, t1, d1, hM1, hA1, hF1, hS1⟩ := hrec.code hr1 (k := [.beginRound, .code L.body]) H hfr0
      rw [show calOf b.kind (c :: cs) fr1.did = c :: cs from calOf_normal _ _, show calOf b.kind (c :: cs) false = c :: cs from rfl] at hS1
      obtain ⟨l1, L1, hl1, hrw1, hheap1, hL1⟩ := hM1.obj lo _ hget2
      obtain rfl : l = l1 := by rw [hA1.le _ _ _ hl] at hl1; simpa using hl1
      have hst1 := st_begin (P := P) (b := b) (t := t1) (d := d1) (k := [.code L.body]) (cs := c :: cs) (l := l.block) rfl hheap1 hL1.st
      have hbl1 : l.block < w1.heap.size := lt_of_some hheap1
      obtain ⟨hM1', hK1'⟩ := hM1.setObj hl1 hrw1 (.loop .busy pend2 vars2 params2 assign2 body2 dfr2) (.loop { L1 with state := .busy })
        ⟨l, { L1 with state := .busy }, hl1, hrw1, heap_obj hbl1 _, ⟨rfl, hL1.pending, hL1.code, hL1.defers⟩⟩
      rw [hbody] at hr2
      have hA1' : Adv ρ1 w1 ρ1 (World.obj w1 l.block (.loop { L1 with state := .busy })) := ⟨Gh.le.refl _, fun _ _ _ h => .inl h, hK1'⟩
      obtain ⟨ρ2, w2, t2, d2, hM2, hA2, hrest⟩ := hrec.code hr2 (k := []) hM1' hF1
      rw [show calOf b.kind (c :: cs) fr1.did = c :: cs from calOf_normal _ _, show calOf b.kind (c :: cs) fr2.did = c :: cs from calOf_normal _ _] at hrest
      have hpre := hS1.trans (.one hst1)
      have hAA : Adv ρ w ρ2 w2 := (hA1.trans hA1').trans hA2
      have fin : ∀ (todo : List Item) (j : Option Jump) (jump : Option Code), JR j jump → ((todo = [] ∧ jump = none) ∨ (∃ kk, todo = .code .ret :: kk ∧ jump = some .ret) ∨ (∃ id kk, todo = .code (.exit id) :: kk ∧ exitTo id kk = none ∧ jump = some (.exit id))) →
          Steps P (lone (fat b t1 d1 [.code L.body]) (c :: cs) (World.obj w1 l.block (.loop { L1 with state := .busy }))) (lone (fat b t2 d2 todo) (c :: cs) w2) → ∀ {st p vars3 params3 assign3 body3 dfr3}, m2'.get lo = some (.loop st p vars3 params3 assign3 body3 dfr3) →
          ∃ ρ' w', MR T ρ' (m2'.set lo (.loop (stOf j) j vars3 params3 assign3 body3 dfr3)) w' ∧ Adv ρ w ρ' w' ∧ ∃ v', VR ρ' (.bool j.isNone) v' ∧ Steps P (lone (fat b t0 [] [.code L.assign, .beginRound, .code L.body]) (c :: cs) w) (lone (c.finish v') cs w') := by
        intro todo j jump hj htodo hsteps st p vars3 params3 assign3 body3 dfr3 hget3
        obtain ⟨l3, L3, hl3, hrw3, hheap3, hL3⟩ := hM2.obj lo _ hget3
        obtain rfl : l = l3 := by rw [hAA.le _ _ _ hl] at hl3; simpa using hl3
        have hbl3 : l.block < w2.heap.size := lt_of_some hheap3
        have hst := st_leave (P := P) (b := b) (t := t2) (d := d2) (c := c) (cs := cs) (l := l.block) rfl rfl hheap3 htodo
        have hjn : j.isNone = jump.isNone := by
          cases j with
          | none => cases jump with
            | none => rfl
            | some x => exact absurd hj (by simp [JR])
          | some x => cases jump with
            | none => cases x <;> exact absurd hj (by simp [JR])
            | some y => rfl
        have hstate : (if jump.isNone then LoopState.ready else LoopState.done) = stOf j := by rw [← hjn]; cases j <;> rfl
        obtain ⟨hM3, hK3⟩ := hM2.setObj hl3 hrw3 (.loop (stOf j) j vars3 params3 assign3 body3 dfr3) (.loop { L3 with state := if jump.isNone then .ready else .done, pending := jump })
          ⟨l, _, hl3, hrw3, heap_obj hbl3 _, ⟨hstate, hj, hL3.code, hL3.defers⟩⟩
        exact ⟨ρ2, _, hM3, hAA.trans ⟨Gh.le.refl _, fun _ _ _ h => .inl h, hK3⟩, _, by rw [hjn]; exact .bool _, hpre.trans (hsteps.trans (.one hst))⟩
      cases e with
      | panic v =>
        simp only [Option.some.injEq, Prod.mk.injEq] at h
        obtain ⟨rfl, rfl⟩ := h
        obtain ⟨hF2, v', todo, hn, hv', hS2⟩ := hrest
        have hd2 : d2 = [] := by
          have := hF2.defers
          rw [hdef] at this
          cases this; rfl
        subst hd2
        exact ⟨ρ2, w2, hM2, hAA, v', hv', hpre.trans (hS2.trans (.one (st_unwound hn)))⟩
      | normal =>
        simp only [jumpOf] at h
        split at h
        case h_2 => simp at h
        rename_i hj hget3
        simp only [Option.some.injEq] at hj
        subst hj
        simp only [Option.some.injEq, Prod.mk.injEq] at h
        obtain ⟨rfl, rfl⟩ := h
        exact fin [] none none trivial (.inl ⟨rfl, rfl⟩) hrest.2 hget3
      | ret =>
        simp only [jumpOf] at h
        split at h
        case h_2 => simp at h
        rename_i hj hget3
        simp only [Option.some.injEq] at hj
        subst hj
        simp only [Option.some.injEq, Prod.mk.injEq] at h
        obtain ⟨rfl, rfl⟩ := h
        obtain ⟨_, kk, hS2⟩ := hrest
        exact fin _ (some .ret) (some .ret) trivial (.inr (.inl ⟨kk, rfl, rfl⟩)) hS2 hget3
      | exit id =>
        simp only [jumpOf] at h
        split at h
        case h_2 => simp at h
        rename_i hj hget3
        simp only [Option.some.injEq] at hj
        subst hj
        simp only [Option.some.injEq, Prod.mk.injEq] at h
        obtain ⟨rfl, rfl⟩ := h
        obtain ⟨_, kk, hkk, hS2⟩ := hrest
        exact fin _ (some (.exit id)) (some (.exit id)) rfl (.inr (.inr ⟨id, kk, rfl, hkk, rfl⟩)) hS2 hget3
  | _ => simp [callV] at h
end
end AM

/- One operation in a region: the theorem. -/
namespace AM
open Go
section
variable {P : Program} {T : Tys} {ρ : Gh} {vt : List Tmp} {nt : Nat} {ds : List (Option Tmp)} {s : List AV} {t : Array Value}
theorem finish_val (b : Frame) (t : Array Value) (d : List Deferred) {ops : Array Oper} {i : Nat} {o : Oper} (ho : ops[i]? = some o) (rest : List Nat) (k : List Item) (v : Value) :
    (fat b t d (.inRegion ops (i :: rest) :: k)).finish v = fat b (putT t o.dst v) d (.inRegion ops rest :: k) := by
  have hf := finish_fat b t d ops i rest k v
  rw [ho] at hf
  simpa using hf
theorem op_sound (hT : TysOK P T) {rec : Rec} (hrec : RecOK P T rec) {rd : Option Nat} {fr fr1 : Fr} {m m1 : Mem} {w : World} {b : Frame} {cs : List Frame} {d : List Deferred} (H : MR T ρ m w) {t1 : Array Value} (hs : SR ρ vt nt ds s fr.vars t1)
    (hd : DRs ρ fr.defers d) (hpan : PanR ρ b.kind cs fr.pan fr.did) (hround : RdR ρ rd b.roundOf) {ops : Array Oper} {i : Nat} {o : Oper} (hex : execOp (evalT t) o = execOp (evalT t1) o) (ho : ops[i]? = some o) (hw : Region.wanted o (yielded ops t) = true) {a : AOp} (hc : compOp T vt ds o.op = some a)
    {r : OpR} (h : opRun T rec rd s a fr m = some (r, fr1, m1)) (rest : List Nat) (k : List Item) :
    OpLands P T ρ w b cs t o.dst ops rest k (lone (fat b t d (.inRegion ops (i :: rest) :: k)) (calOf b.kind cs fr.did) w) r fr fr1 m1 := by
  cases hk : isSpec a with
  | false =>
    have hnd : notDefer b o := by
      refine .inr fun c hcc => ?_
      rw [hcc] at hc
      rw [comp_notDefer hc] at hk
      simp at hk
    obtain ⟨rfl, v, nx, w', ρ', rfl, hrun, hM, hA, hN⟩ := plain_run hT H hs hc hk h
    rw [← hex] at hrun
    refine ⟨ρ', w', d, hM, hA, rfl, hd.mono hA.le, hpan.mono hA.le, ?_⟩
    cases nx with
    | value v' => exact ⟨v', hN, .one (st_op_value ho hw hnd hrun)⟩
    | skip => exact ⟨undef, by rw [show v = .und from hN]; exact .und, .one (st_op_unit ho hw hnd hrun)⟩
    | _ => exact hN.elim
  | true =>
    rcases comp_spec hc hk with ⟨f, args, types, f', args', hop, hf, hargs, rfl⟩ | ⟨args, types, hop, rfl⟩ | ⟨f, args, types, f', args', hop, hf, hargs, rfl⟩ | ⟨x, x', hop, hx, rfl⟩
    · -- a call
      have hnd : notDefer b o := .inr fun c hcc => by rw [hop] at hcc; simp at hcc
      simp only [opRun] at h
      split at h <;> simp only [Option.some.injEq, Prod.mk.injEq, reduceCtorEq] at h
      rename_i r' m' hcall
      obtain ⟨rfl, rfl, rfl⟩ := h
      have hargs' : VRs ρ (evs s fr.vars args') (args.map (evalT t1)).toList := by simpa using evs_ok hs hargs
      obtain ⟨nx, hrun, fr0, hbeg, hall⟩ := callV_sound hrec H (ev_ok hs hf) hargs' hcall
      have hexec : (execOp (evalT t) o).run P w = .ok nx w := by
        rw [hex]
        have : execOp (evalT t1) o = callSem (evalT t1 f) (args.map (evalT t1)) := by
          obtain ⟨dst, op, type, pos, after, guard⟩ := o
          simp only at hop
          subst hop
          rfl
        rw [this]; exact hrun
      obtain ⟨ρ', w', hM, hA, hres⟩ := hall (fat b t d (.inRegion ops (i :: rest) :: k)) (calOf b.kind cs fr.did)
      have hstart : step P (lone (fat b t d (.inRegion ops (i :: rest) :: k)) (calOf b.kind cs fr.did) w) = .next (lone fr0 (fat b t d (.inRegion ops (i :: rest) :: k) :: calOf b.kind cs fr.did) w) := by
        cases nx <;> simp only [begin, Option.some.injEq, reduceCtorEq] at hbeg
        · subst hbeg; exact st_op_enter ho hw hnd hexec
        · subst hbeg; exact st_op_round ho hw hnd hexec
      refine ⟨ρ', w', d, hM, hA, rfl, hd.mono hA.le, hpan.mono hA.le, ?_⟩
      cases r' with
      | val v =>
        obtain ⟨v', h1, h2⟩ := hres
        refine ⟨v', h1, .head hstart ?_⟩
        rw [finish_val b t d ho rest k v'] at h2
        exact h2
      | panic v =>
        obtain ⟨v', h1, h2⟩ := hres
        exact ⟨v', .inRegion ops (i :: rest) :: k, trivial, h1, .head hstart h2⟩
    · -- recover
      have hexec : (execOp (evalT t) o).run P w = .ok .recover w := by
        rw [hex]
        clear hex
        obtain ⟨dst, op, type, pos, after, guard⟩ := o
        simp only at hop
        subst hop
        rfl
      simp only [opRun] at h
      split at h
      · simp at h
      · have hro : b.roundOf = none := by
          cases hb : b.roundOf with
          | none => rfl
          | some r => rw [hb] at hround; exact hround.elim
        split at h
        · rename_i v hv
          simp only [Option.some.injEq, Prod.mk.injEq] at h
          obtain ⟨rfl, rfl, rfl⟩ := h
          obtain ⟨hdid, hkind, c, crest, v', hcs, hmode, hvr⟩ := hpan.some v hv
          subst hcs
          have hcal : calOf b.kind (c :: crest) fr.did = c :: crest := by rw [hdid]; rfl
          have hcal2 : calOf b.kind (c :: crest) true = recd (c :: crest) := by rw [hkind]; rfl
          have hrec' : recd (c :: crest) = { c with mode := .panicking [{ v := v', recovered := true }] } :: crest := by simp only [recd, hmode]
          have htry : ∀ f : Frame, f.kind = b.kind → tryRecover f (calOf b.kind (c :: crest) fr.did) = some (v', recd (c :: crest)) := by
            intro f hfk
            rw [hcal, hrec']
            unfold tryRecover
            rw [hfk, hkind]
            simp only [hmode]
          refine ⟨ρ, w, d, H, .refl _ _, rfl, hd, ⟨fun _ hx => by simp at hx, fun _ f hfk => ?_⟩, v', hvr, ?_⟩
          · dsimp only
            rw [hcal2, hrec']
            unfold tryRecover
            rw [hfk, hkind]
          · dsimp only
            rw [hcal2]
            exact .one (st_op_recover hro ho hw hexec htry)
        · rename_i hv
          simp only [Option.some.injEq, Prod.mk.injEq] at h
          obtain ⟨rfl, rfl, rfl⟩ := h
          exact ⟨ρ, w, d, H, .refl _ _, rfl, hd, hpan, .nilIface, .nilIface, .one (st_op_recover_none hro ho hw hexec (hpan.none hv))⟩
    · -- defer
      simp only [opRun] at h
      split at h
      · rename_i fid captured hev
        simp only [Option.some.injEq, Prod.mk.injEq] at h
        obtain ⟨rfl, rfl, rfl⟩ := h
        have hro : b.roundOf = none := by
          cases hb : b.roundOf with
          | none => rfl
          | some r => rw [hb] at hround; exact hround.elim
        have hfv := ev_ok hs hf
        rw [hev] at hfv
        obtain ⟨cap', hfe, hcap⟩ := hfv.fn_inv
        have hargs' : VRs ρ (evs s fr.vars args') (args.map (evalT t1)).toList := by simpa using evs_ok hs hargs
        have hexec : (execOp (evalT t) o).run P w = .ok (.defer { target := .fn (.func fid) cap', args := args.map (evalT t1) }) w := by
          rw [hex]
          clear hex
          obtain ⟨dst, op, type, pos, after, guard⟩ := o
          simp only at hop
          subst hop
          simp only [execOp, resolve, hfe, Deferred.ofValue, Sem.run_bind, Sem.run_pure, Result.andThen_ok, Array.empty_append]
        refine ⟨ρ, w, _, H, .refl _ _, rfl, .cons ⟨cap', rfl, ?_⟩ hd, hpan, undef, .und, .one (st_op_defer ho hw (.inl hro) hexec)⟩
        simpa using hargs'.append hcap
      · simp at h
    · -- panic
      have hnd : notDefer b o := .inr fun c hcc => by rw [hop] at hcc; simp at hcc
      simp only [opRun] at h
      split at h
      · rename_i ty v hev
        simp only [Option.some.injEq, Prod.mk.injEq] at h
        obtain ⟨rfl, rfl, rfl⟩ := h
        have hxv := ev_ok hs hx
        rw [hev] at hxv
        obtain ⟨v', hxe, hv'⟩ := hxv.iface_inv
        have hexec : (execOp (evalT t) o).run P w = .halt (.panic (.iface ty v')) w := by
          rw [hex]
          clear hex
          obtain ⟨dst, op, type, pos, after, guard⟩ := o
          simp only at hop
          subst hop
          simp [execOp, hxe, Instr.panic]
        exact ⟨ρ, w, d, H, .refl _ _, rfl, hd, hpan, .iface ty v', .inRegion ops (i :: rest) :: k, trivial, .iface hv', .one (st_op_panic ho hw hnd hexec)⟩
      · simp at h
end
end AM

/- A region in the order that its text has. -/
namespace AM
open Go
section
variable {P : Program} {T : Tys} {ρ : Gh} {vt : List Tmp} {nt : Nat} {ds : List (Option Tmp)} {s vars : List AV} {t : Array Value}
theorem size_putT (t : Array Value) (d : Option Tmp) (v : Value) : (putT t d v).size = t.size := by cases d <;> simp [putT]
theorem getD_put (t : Array Value) (d u : Tmp) (v : Value) (h : d < t.size) : (t.setIfInBounds d v).getD u undef = if u = d then v else t.getD u undef := by
  by_cases e : u = d
  · subst e; simp [Array.getD_eq_getD_getElem?, h]
  · simp [Array.getD_eq_getD_getElem?, Array.getElem?_setIfInBounds_ne (Ne.symm e), e]
def dstOf (vt : List Tmp) : Option Tmp → Option Nat
  | some d => idxIn d vt
  | none => none
theorem VV.put (hn : vt.Nodup) (h : VV ρ vt vars t) {d : Option Tmp} (hd : ∀ x, d = some x → x < t.size) {v : AV} {v' : Value} (hv : VR ρ v v') : VV ρ vt (putS vars (dstOf vt d) v) (putT t d v') := by
  cases d with
  | none => exact h
  | some d =>
    have hd := hd d rfl
    intro j u hj
    obtain ⟨h1, x, h2, h3⟩ := h j u hj
    refine ⟨by simpa [putT] using h1, ?_⟩
    simp only [putT, getD_put t d u v' hd]
    by_cases e : u = d
    · subst e
      rw [if_pos rfl]
      cases hi : idxIn u vt with
      | none => exact absurd (List.mem_of_getElem? hj) (idxIn_none hi)
      | some i =>
        have h4 := idxIn_some hi
        have hij : i = j := by
          have h6 := List.getElem?_eq_some_iff.1 h4
          have h7 := List.getElem?_eq_some_iff.1 hj
          obtain ⟨l1, e1⟩ := h6
          obtain ⟨l2, e2⟩ := h7
          have h10 := List.pairwise_iff_getElem.1 hn
          rcases Nat.lt_trichotomy i j with h11 | h11 | h11
          · exact absurd (e1.trans e2.symm) (h10 _ _ l1 l2 h11)
          · exact h11
          · exact absurd (e2.trans e1.symm) (h10 _ _ l2 l1 h11)
        subst hij
        have hlt : i < vars.length := (List.getElem?_eq_some_iff.1 h2).1
        exact ⟨v, by simp [putS, dstOf, hi, upd_eq, hlt], hv⟩
    · rw [if_neg e]
      refine ⟨x, ?_, h3⟩
      cases hi : idxIn d vt with
      | none => simpa [putS, dstOf, hi] using h2
      | some i =>
        have h4 := idxIn_some hi
        have hij : i ≠ j := by
          rintro rfl
          rw [h4] at hj
          exact e (by simpa using hj.symm)
        simp only [putS, dstOf, hi, upd_eq]
        rw [List.getElem?_set_ne hij]; exact h2
theorem SR.put (hs : SR ρ vt nt ds s vars t) {d : Option Tmp} (hd : ∀ x, d = some x → x < nt) {v : AV} {v' : Value} (hv : VR ρ v v') :
    SR ρ vt nt (d :: ds) (v :: s) (putS vars (dstOf vt d) v) (putT t d v') := by
  refine ⟨hs.nodup, by rw [size_putT]; exact hs.ntle, fun u i hi => ?_, hs.vv.put hs.nodup (fun x hx => Nat.lt_of_lt_of_le (hd x hx) hs.ntle) hv⟩
  cases d with
  | none =>
    simp only [idxOp] at hi
    split at hi <;> simp only [Option.some.injEq, reduceCtorEq] at hi
    rename_i j hj
    subst hi
    simpa [putT] using hs.stack u j hj
  | some d =>
    have hd := hd d rfl
    have hd2 := Nat.lt_of_lt_of_le hd hs.ntle
    simp only [idxOp, nbeq] at hi
    simp only [putT, getD_put t d u v' hd2]
    by_cases e : d = u
    · subst e
      simp only [decide_true, cond_true, Option.some.injEq] at hi
      subst hi
      exact ⟨hd, v, rfl, by rw [if_pos rfl]; exact hv⟩
    · simp only [e, decide_false, cond_false] at hi
      split at hi <;> simp only [Option.some.injEq, reduceCtorEq] at hi
      rename_i j hj
      subst hi
      rw [if_neg (Ne.symm e)]
      simpa using hs.stack u j hj
/-- A guard asks the same of both. -/
theorem wants_ok {ops : Array Oper} {done : List Oper} (hds : ds = (done.map (·.dst)).reverse) (hpre : ∀ j, j < done.length → ops[j]? = done[j]?) (hs : SR ρ vt nt ds s vars t) {o : Oper} {g : Option (Nat × Bool)} {op : AOp} {dst : Option Nat}
    (hg : (match o.guard with
      | none => some none
      | some (j, want) => match at? ds (done.length - 1 - j) with
        | some (some d) => match idxOp d ds with
          | some i => bif Nat.beq i (done.length - 1 - j) && Nat.blt j done.length then some (some (i, want)) else none
          | none => none
        | _ => none : Option (Option (Nat × Bool))) = some g) :
    wants s { dst, op, guard := g } = Region.wanted o (yielded ops t) := by
  unfold wants Region.wanted
  cases hgu : o.guard with
  | none => rw [hgu] at hg; simp at hg; subst hg; rfl
  | some p =>
    obtain ⟨j, want⟩ := p
    rw [hgu] at hg
    simp only at hg
    split at hg
    · rename_i d hat
      split at hg
      · rename_i i hi
        cases hc : (Nat.beq i (done.length - 1 - j) && Nat.blt j done.length)
        · simp [hc] at hg
        simp only [hc, cond_true, Option.some.injEq] at hg
        subst hg
        simp only [Bool.and_eq_true, nbeq, nblt, decide_eq_true_eq] at hc
        obtain ⟨rfl, hj⟩ := hc
        obtain ⟨h1, v, h2, h3⟩ := hs.stack d _ hi
        have hdst : (ops[j]?).bind (·.dst) = some d := by
          rw [hpre j hj]
          rw [at?_eq, hds, List.getElem?_reverse (by simp; omega)] at hat
          simp only [List.length_map] at hat
          rw [show done.length - 1 - (done.length - 1 - j) = j from by omega, List.getElem?_map] at hat
          cases hdj : done[j]? with
          | none => rw [hdj] at hat; simp at hat
          | some q => rw [hdj] at hat; simpa using hat
        have hlt : d < t.size := Nat.lt_of_lt_of_le h1 hs.ntle
        have hy : yielded ops t j = (match t.getD d undef with | .bool b => some b | _ => none) := by
          unfold yielded
          rw [hdst]
          simp only [Option.bind_some, Array.getD_eq_getD_getElem?, Array.getElem?_eq_getElem hlt, Option.getD_some]
          cases t[d] <;> rfl
        simp only [hy]
        rw [nth_eq, h2]
        simp only [Option.getD_some]
        generalize t.getD d undef = x at h3
        cases h3 <;> simp
      · simp at hg
    · simp at hg
theorem FrR.sr {rd fr b cs d} (h : FrR ρ vt nt rd fr b cs t d) : SR ρ vt nt [] [] fr.vars t := ⟨h.nodup, h.ntle, fun _ _ hi => by simp [idxOp] at hi, h.vv⟩
theorem compOps_cons {T : Tys} {vt : List Tmp} {nt : Nat} {ds : List (Option Tmp)} {n : Nat} {o : Oper} {rest : List Oper} {l : List AOper} (h : compOps T vt nt ds n (o :: rest) = some l) :
    ∃ a g r, compOp T vt ds o.op = some a ∧ (match o.guard with
      | none => some none
      | some (j, want) => match at? ds (n - 1 - j) with
        | some (some d) => match idxOp d ds with
          | some i => bif Nat.beq i (n - 1 - j) && Nat.blt j n then some (some (i, want)) else none
          | none => none
        | _ => none : Option (Option (Nat × Bool))) = some g ∧ compOps T vt nt (o.dst :: ds) (n + 1) rest = some r ∧ (∀ d, o.dst = some d → d < nt) ∧ l = { dst := dstOf vt o.dst, op := a, guard := g } :: r := by
  simp only [compOps] at h
  split at h <;> simp only [Option.some.injEq, reduceCtorEq] at h
  rename_i a g r ha hg hr hd
  subst h
  refine ⟨a, g, r, ha, hg, hr, fun d hdd => ?_, ?_⟩
  · rw [hdd] at hd; simpa [nblt] using hd
  · cases o.dst <;> rfl
theorem ops_sound (hT : TysOK P T) {rec : Rec} (hrec : RecOK P T rec) {rd : Option Nat} {b : Frame} {cs : List Frame} {ops : Array Oper} {k : List Item} : ∀ (l done : List Oper) {ds : List (Option Tmp)} {s : List AV} {aops : List AOper} {fr : Fr} {m : Mem} {e : Ex} {fr' : Fr} {m' : Mem},
    ops.toList = done ++ l → ds = (done.map (·.dst)).reverse → compOps T vt nt ds done.length l = some aops → opsRun T rec rd aops s fr m = some (e, fr', m') →
    ∀ {ρ : Gh} {w : World} {t : Array Value} {d : List Deferred}, MR T ρ m w → SR ρ vt nt ds s fr.vars t → FrR ρ vt nt rd fr b cs t d →
      Lands P T ρ w vt nt rd b cs k (lone (fat b t d (.inRegion ops (List.range' done.length l.length) :: k)) (calOf b.kind cs fr.did) w) e fr' m'
  | [], done, ds, s, aops, fr, m, e, fr', m', hops, hds, hc, h, ρ, w, t, d, H, hs, hf => by
    simp only [compOps, Option.some.injEq] at hc
    subst hc
    simp only [opsRun, Option.some.injEq, Prod.mk.injEq] at h
    obtain ⟨rfl, rfl, rfl⟩ := h
    exact ⟨ρ, w, t, d, H, .refl _ _, hf, .one st_region_end⟩
  | o :: l, done, ds, s, aops, fr, m, e, fr', m', hops, hds, hc, h, ρ, w, t, d, H, hs, hf => by
    obtain ⟨a, g, r, ha, hg, hr, hd, rfl⟩ := compOps_cons hc
    have ho : ops[done.length]? = some o := by rw [← Array.getElem?_toList, hops]; simp
    have hpre : ∀ j, j < done.length → ops[j]? = done[j]? := fun j hj => by rw [← Array.getElem?_toList, hops, List.getElem?_append_left hj]
    have hwant := wants_ok (s := s) (op := a) (dst := dstOf vt o.dst) hds hpre hs hg
    simp only [opsRun] at h
    have hdl : (done ++ [o]).length = done.length + 1 := by simp
    have hops' : ops.toList = (done ++ [o]) ++ l := by rw [hops]; simp
    have hds' : o.dst :: ds = ((done ++ [o]).map (·.dst)).reverse := by rw [hds]; simp
    cases hw : wants s { dst := dstOf vt o.dst, op := a, guard := g } with
    | false =>
      rw [hw] at h hwant
      simp only [cond_false] at h
      have hst := st_op_skip (P := P) (b := b) (t := t) (d := d) (k := k) (cs := calOf b.kind cs fr.did) (w := w) (rest := List.range' (done.length + 1) l.length) ho hwant.symm
      have hs' := hs.put (d := o.dst) hd VR.und
      have hf' : FrR ρ vt nt rd (fr.put (dstOf vt o.dst) .und) b cs (putT t o.dst undef) d := ⟨hf.nodup, by rw [size_putT]; exact hf.ntle, hs'.vv, hf.defers, hf.pan, hf.round⟩
      have := ops_sound (k := k) hT hrec l (done ++ [o]) hops' hds' (by rw [hdl]; exact hr) h (ρ := ρ) (w := w) H hs' hf'
      rw [hdl] at this
      exact Lands.from (.one hst) (.refl _ _) this
    | true =>
      rw [hw] at h hwant
      simp only [cond_true] at h
      split at h
      · rename_i v fr1 m1 hop
        obtain ⟨ρ1, w1, d1, hM, hA, hvars, hdr, hpan, v', hv, hst⟩ := op_sound hT hrec H hs hf.defers hf.pan hf.round rfl ho hwant.symm ha hop (List.range' (done.length + 1) l.length) k
        have hs' := (hs.mono hA.le).put (d := o.dst) hd hv
        have hf' : FrR ρ1 vt nt rd (fr1.put (dstOf vt o.dst) v) b cs (putT t o.dst v') d1 := ⟨hf.nodup, by rw [size_putT]; exact hf.ntle, by show VV _ _ (putS fr1.vars _ _) _; rw [hvars]; exact hs'.vv, hdr, hpan, hf.round.mono hA.le⟩
        have := ops_sound (k := k) hT hrec l (done ++ [o]) hops' hds' (by rw [hdl]; exact hr) h (ρ := ρ1) (w := w1) hM (by show SR _ _ _ _ _ (putS fr1.vars _ _) _; rw [hvars]; exact hs') hf'
        rw [hdl] at this
        exact Lands.from hst hA this
      · rename_i v fr1 m1 hop
        simp only [Option.some.injEq, Prod.mk.injEq] at h
        obtain ⟨rfl, rfl, rfl⟩ := h
        obtain ⟨ρ1, w1, d1, hM, hA, hvars, hdr, hpan, v', todo, hn, hv, hst⟩ := op_sound hT hrec H hs hf.defers hf.pan hf.round rfl ho hwant.symm ha hop (List.range' (done.length + 1) l.length) k
        exact ⟨ρ1, w1, t, d1, hM, hA, ⟨hf.ntle, by rw [hvars]; exact (hf.vv.mono hA.le).weak, hdr, hpan, hf.round.mono hA.le⟩, v', todo, hn, hv, hst⟩
      · simp at h
end
end AM

/- Regions that draw their order: operands, the checks of the text, the run as a row of states. -/
namespace AM
open Go

/-! ### Operands -/
def AOp.args : AOp → List AX
  | .mov x | .nilck x | .un _ x | .conv _ x | .sconv x | .iface _ x | .faddr _ x | .fld _ _ _ x | .ext x _ | .tassert _ _ _ x | .lenS x | .lenV x
  | .load _ _ x | .lenM x | .b2s x | .box _ x | .s2b _ x | .clr _ _ x | .mark x | .pan x => [x]
  | .pick c a b => [c, a, b]
  | .build _ ps => ps.map (·.2.2)
  | .bin _ _ x y | .iaddr _ x y | .idx x y | .mn x y | .mx x y | .make _ _ _ _ x y | .append _ _ _ x y | .copy _ x y | .store _ x y | .lookup _ _ _ x y => [x, y]
  | .fnv _ c => c
  | .sliceS x lo hi | .sliceV _ x lo hi => x :: (lo.toList ++ hi.toList)
  | .mkslc _ _ _ _ ps => ps.map (·.2)
  | .put _ x y z => [x, y, z]
  | .call f as | .defer f as => f :: as
  | .alloc .. | .mkmap | .recov => []
section
variable {s vs s' vs' : List AV}
theorem evs_congr : ∀ {l : List AX}, (∀ x ∈ l, ev s vs x = ev s' vs' x) → evs s vs l = evs s' vs' l
  | [], _ => rfl
  | x :: l, h => by simp only [evs, h x (by simp), evs_congr (l := l) fun y hy => h y (by simp [hy])]
theorem evo_congr {o : Option AX} (h : ∀ x ∈ o.toList, ev s vs x = ev s' vs' x) : evo s vs o = evo s' vs' o := by
  cases o with
  | none => rfl
  | some x => simp only [evo, h x (by simp)]
theorem evp_congr : ∀ {l : List (Nat × Nat × AX)}, (∀ x ∈ l.map (·.2.2), ev s vs x = ev s' vs' x) → evp s vs l = evp s' vs' l
  | [], _ => rfl
  | (a, b, x) :: l, h => by simp only [evp, h x (by simp), evp_congr (l := l) fun y hy => h y (by simp only [List.map_cons, List.mem_cons]; exact .inr hy)]
theorem evq_congr {es : Nat} : ∀ {l : List (Nat × AX)}, (∀ x ∈ l.map (·.2), ev s vs x = ev s' vs' x) → evq es s vs l = evq es s' vs' l
  | [], _ => rfl
  | (a, x) :: l, h => by simp only [evq, h x (by simp), evq_congr (l := l) fun y hy => h y (by simp only [List.map_cons, List.mem_cons]; exact .inr hy)]
theorem pureOp_congr {T : Tys} {a : AOp} (h : ∀ x ∈ a.args, ev s vs x = ev s' vs' x) : pureOp T s vs a = pureOp T s' vs' a := by
  cases a <;> simp only [AOp.args, List.mem_cons, List.not_mem_nil, or_false, forall_eq_or_imp, forall_eq] at h <;> simp only [pureOp]
  case build z ps => rw [evp_congr h]
  case fnv f c => rw [evs_congr h]
  case sliceS x lo hi => rw [h.1, evo_congr fun y hy => h.2 y (by simp [hy]), evo_congr fun y hy => h.2 y (by simp [hy])]
  case sliceV e x lo hi => rw [h.1, evo_congr fun y hy => h.2 y (by simp [hy]), evo_congr fun y hy => h.2 y (by simp [hy])]
  all_goals simp only [h]
theorem readOp_congr {T : Tys} {a : AOp} {m : Mem} (h : ∀ x ∈ a.args, ev s vs x = ev s' vs' x) : readOp T s vs a m = readOp T s' vs' a m := by
  cases a <;> simp only [AOp.args, List.mem_cons, List.not_mem_nil, or_false, forall_eq_or_imp, forall_eq] at h <;> simp only [readOp]
  all_goals simp only [h]
theorem allocOp_congr {a : AOp} {m : Mem} (h : ∀ x ∈ a.args, ev s vs x = ev s' vs' x) : allocOp s vs a m = allocOp s' vs' a m := by
  cases a <;> simp only [AOp.args, List.mem_cons, List.not_mem_nil, or_false, forall_eq_or_imp, forall_eq] at h <;> simp only [allocOp]
  case mkslc e es n z ps => rw [evq_congr h]
  all_goals simp only [h]
theorem effOp_congr {T : Tys} {a : AOp} {m : Mem} (h : ∀ x ∈ a.args, ev s vs x = ev s' vs' x) : effOp T s vs a m = effOp T s' vs' a m := by
  cases a <;> simp only [AOp.args, List.mem_cons, List.not_mem_nil, or_false, forall_eq_or_imp, forall_eq] at h <;> simp only [effOp]
  all_goals simp only [h]
theorem opRun_congr {T : Tys} {rec : Rec} {rd : Option Nat} {a : AOp} {fr : Fr} {m : Mem} {vs' : List AV} (h : ∀ x ∈ a.args, ev s fr.vars x = ev s' vs' x) {r : OpR} {fr1 : Fr} {m1 : Mem}
    (k : opRun T rec rd s a fr m = some (r, fr1, m1)) : opRun T rec rd s' a { fr with vars := vs' } m = some (r, { fr1 with vars := vs' }, m1) ∧ fr1.vars = fr.vars := by
  cases a
  case call f as =>
    simp only [AOp.args, List.mem_cons, forall_eq_or_imp] at h
    simp only [opRun] at k ⊢
    rw [← h.1, ← evs_congr h.2]
    split at k <;> simp only [Option.some.injEq, Prod.mk.injEq, reduceCtorEq] at k
    rename_i r' m' hc
    obtain ⟨rfl, rfl, rfl⟩ := k
    simp only [and_self]
  case recov =>
    simp only [opRun] at k ⊢
    split at k
    · simp at k
    · split at k <;> simp only [Option.some.injEq, Prod.mk.injEq] at k <;> obtain ⟨rfl, rfl, rfl⟩ := k <;> simp only [and_self, *]
  case defer f as =>
    simp only [AOp.args, List.mem_cons, forall_eq_or_imp] at h
    simp only [opRun] at k ⊢
    rw [← h.1, ← evs_congr h.2]
    split at k <;> simp only [Option.some.injEq, Prod.mk.injEq, reduceCtorEq] at k
    rename_i f' c hc
    obtain ⟨rfl, rfl, rfl⟩ := k
    simp only [and_self]
  case pan x =>
    simp only [AOp.args, List.mem_cons, List.not_mem_nil, or_false, forall_eq] at h
    simp only [opRun] at k ⊢
    rw [← h]
    split at k <;> simp only [Option.some.injEq, Prod.mk.injEq, reduceCtorEq] at k
    rename_i t v hc
    obtain ⟨rfl, rfl, rfl⟩ := k
    simp only [and_self]
  all_goals
    simp only [opRun] at k ⊢
    simp only [← pureOp_congr h, ← readOp_congr h, ← allocOp_congr h, ← effOp_congr h]
    dsimp only [cls] at k ⊢
    split at k <;> simp only [Option.some.injEq, Prod.mk.injEq, reduceCtorEq] at k
    rename_i hc
    obtain ⟨rfl, rfl, rfl⟩ := k
    simp only [and_self]
end
section
variable {T : Tys} {vt : List Tmp} {ds : List (Option Tmp)}
theorem compXs_mem : ∀ {l : List Operand} {r : List AX}, compXs vt ds l = some r → ∀ y ∈ r, ∃ x ∈ l, compX vt ds x = some y
  | [], r, h, y, hy => by simp [compXs] at h; subst h; simp at hy
  | x :: l, r, h, y, hy => by
    simp only [compXs] at h
    split at h <;> simp only [Option.some.injEq, reduceCtorEq] at h
    rename_i a r' h1 h2
    subst h
    rcases List.mem_cons.1 hy with rfl | hy
    · exact ⟨x, by simp, h1⟩
    · obtain ⟨z, hz, hz2⟩ := compXs_mem h2 y hy
      exact ⟨z, by simp [hz], hz2⟩
theorem compXo_mem {o : Option Operand} {r : Option AX} (h : compXo vt ds o = some r) : ∀ y ∈ r.toList, ∃ x ∈ o.toList, compX vt ds x = some y := by
  cases o with
  | none => simp [compXo] at h; subst h; simp
  | some x =>
    simp only [compXo] at h
    split at h <;> simp only [Option.some.injEq, reduceCtorEq] at h
    rename_i a h1
    subst h
    intro y hy
    simp at hy; subst hy
    exact ⟨x, by simp, h1⟩
theorem compParts_mem {fs : List Fld} : ∀ {l : List (Nat × Operand)} {r : List (Nat × Nat × AX)}, compParts fs vt ds l = some r → ∀ y ∈ r.map (·.2.2), ∃ x ∈ l.map (·.2), compX vt ds x = some y
  | [], r, h, y, hy => by simp [compParts] at h; subst h; simp at hy
  | (i, x) :: l, r, h, y, hy => by
    simp only [compParts] at h
    split at h <;> try simp only [reduceCtorEq] at h
    rename_i f a r' h0 h1 h2
    cases hf : Nat.beq f.size 0 <;> simp only [hf, cond_true, cond_false, Option.some.injEq, reduceCtorEq] at h
    subst h
    simp only [List.map_cons, List.mem_cons] at hy
    rcases hy with rfl | hy
    · exact ⟨x, by simp, h1⟩
    · obtain ⟨z, hz, hz2⟩ := compParts_mem h2 y hy
      exact ⟨z, by simp only [List.map_cons, List.mem_cons]; exact .inr hz, hz2⟩
theorem compElems_mem : ∀ {l : List (Nat × Operand)} {r : List (Nat × AX)}, compElems vt ds l = some r → ∀ y ∈ r.map (·.2), ∃ x ∈ l.map (·.2), compX vt ds x = some y
  | [], r, h, y, hy => by simp [compElems] at h; subst h; simp at hy
  | (i, x) :: l, r, h, y, hy => by
    simp only [compElems] at h
    split at h <;> simp only [Option.some.injEq, reduceCtorEq] at h
    rename_i a r' h1 h2
    subst h
    simp only [List.map_cons, List.mem_cons] at hy
    rcases hy with rfl | hy
    · exact ⟨x, by simp, h1⟩
    · obtain ⟨z, hz, hz2⟩ := compElems_mem h2 y hy
      exact ⟨z, by simp only [List.map_cons, List.mem_cons]; exact .inr hz, hz2⟩
theorem comp_args {op : Op} {a : AOp} (hc : compOp T vt ds op = some a) : ∀ y ∈ a.args, ∃ x ∈ op.operands.toList, compX vt ds x = some y := by
  have one : ∀ {x : Operand} {y : AX}, compX vt ds x = some y → ∀ z ∈ [y], ∃ q ∈ [x], compX vt ds q = some z := fun h z hz => by simp at hz; subst hz; exact ⟨_, by simp, h⟩
  have two : ∀ {x x' : Operand} {y y' : AX}, compX vt ds x = some y → compX vt ds x' = some y' → ∀ z ∈ [y, y'], ∃ q ∈ [x, x'], compX vt ds q = some z := fun h h' z hz => by
    simp at hz
    rcases hz with rfl | rfl
    · exact ⟨_, by simp, h⟩
    · exact ⟨_, by simp, h'⟩
  cases op <;> simp only [compOp, Option.pure_def, Option.bind_eq_bind, reduceCtorEq] at hc
  case move x => simp only [Option.bind_eq_some_iff, Option.some.injEq] at hc; obtain ⟨x', hx, rfl⟩ := hc; exact one hx
  case assign x => simp only [Option.bind_eq_some_iff, Option.some.injEq] at hc; obtain ⟨x', hx, rfl⟩ := hc; exact one hx
  case pick c x y =>
    simp only [Option.bind_eq_some_iff, Option.some.injEq] at hc; obtain ⟨c', hc', x', hx, y', hy, rfl⟩ := hc
    intro z hz
    simp only [AOp.args, List.mem_cons, List.not_mem_nil, or_false] at hz
    rcases hz with rfl | rfl | rfl
    · exact ⟨_, by simp [Op.operands], hc'⟩
    · exact ⟨_, by simp [Op.operands], hx⟩
    · exact ⟨_, by simp [Op.operands], hy⟩
  case alloc e => simp only [Option.bind_eq_some_iff, Option.some.injEq] at hc; obtain ⟨_, _, rfl⟩ := hc; simp [AOp.args]
  case box e x => simp only [Option.bind_eq_some_iff, Option.some.injEq] at hc; obtain ⟨x', hx, rfl⟩ := hc; exact one hx
  case build t ps =>
    simp only [Option.bind_eq_some_iff] at hc; obtain ⟨ty, hty, hc⟩ := hc
    split at hc <;> simp only [Option.bind_eq_some_iff, Option.some.injEq, reduceCtorEq] at hc
    obtain ⟨r, hr, rfl⟩ := hc
    exact fun y hy => by simpa [Op.operands] using compParts_mem hr y hy
  case buildSlice t n ps =>
    simp only [Option.bind_eq_some_iff] at hc; obtain ⟨ty, hty, hc⟩ := hc
    cases hb : Nat.ble (n * ty.2.size) 16777216
    · simp [hb] at hc
    simp only [hb, cond_true, Option.some.injEq] at hc
    obtain ⟨r, hr, rfl⟩ := hc
    exact fun y hy => by simpa [Op.operands] using compElems_mem hr y hy
  case insert t m k v =>
    simp only [Option.bind_eq_some_iff] at hc; obtain ⟨ty, hty, hc⟩ := hc
    split at hc <;> simp only [Option.bind_eq_some_iff, Option.some.injEq, reduceCtorEq] at hc
    obtain ⟨c', hc', x', hx, y', hy, rfl⟩ := hc
    intro z hz
    simp only [AOp.args, List.mem_cons, List.not_mem_nil, or_false] at hz
    rcases hz with rfl | rfl | rfl
    · exact ⟨_, by simp [Op.operands], hc'⟩
    · exact ⟨_, by simp [Op.operands], hx⟩
    · exact ⟨_, by simp [Op.operands], hy⟩
  case mapUpdate t m k v =>
    simp only [Option.bind_eq_some_iff] at hc; obtain ⟨ty, hty, hc⟩ := hc
    split at hc <;> simp only [Option.bind_eq_some_iff, Option.some.injEq, reduceCtorEq] at hc
    obtain ⟨c', hc', x', hx, y', hy, rfl⟩ := hc
    intro z hz
    simp only [AOp.args, List.mem_cons, List.not_mem_nil, or_false] at hz
    rcases hz with rfl | rfl | rfl
    · exact ⟨_, by simp [Op.operands], hc'⟩
    · exact ⟨_, by simp [Op.operands], hx⟩
    · exact ⟨_, by simp [Op.operands], hy⟩
  case load t x =>
    simp only [Option.bind_eq_some_iff] at hc; obtain ⟨ty, hty, hc⟩ := hc
    split at hc <;> simp only [Option.bind_eq_some_iff, Option.some.injEq, reduceCtorEq] at hc
    obtain ⟨x', hx, rfl⟩ := hc; exact one hx
  case store t x y => simp only [Option.bind_eq_some_iff, Option.some.injEq] at hc; obtain ⟨_, _, x', hx, y', hy, rfl⟩ := hc; exact two hx hy
  case nilCheck x => simp only [Option.bind_eq_some_iff, Option.some.injEq] at hc; obtain ⟨x', hx, rfl⟩ := hc; exact one hx
  case binOp o t x y yt => simp only [Option.bind_eq_some_iff, Option.some.injEq] at hc; obtain ⟨x', hx, y', hy, rfl⟩ := hc; exact two hx hy
  case unOp o t x => simp only [Option.bind_eq_some_iff, Option.some.injEq] at hc; obtain ⟨x', hx, rfl⟩ := hc; exact one hx
  case convert sr d x =>
    simp only [Option.bind_eq_some_iff] at hc
    obtain ⟨sy, hsy, dy, hdy, hc⟩ := hc
    split at hc
    · simp only [Option.bind_eq_some_iff, Option.some.injEq] at hc; obtain ⟨x', hx, rfl⟩ := hc; exact one hx
    · simp only [Option.bind_eq_some_iff, Option.some.injEq] at hc; obtain ⟨x', hx, rfl⟩ := hc; exact one hx
    · simp only [Option.bind_eq_some_iff] at hc; obtain ⟨te, hte, hc⟩ := hc
      split at hc <;> simp only [Option.bind_eq_some_iff, Option.some.injEq, reduceCtorEq] at hc
      obtain ⟨x', hx, rfl⟩ := hc; exact one hx
    · simp only [Option.bind_eq_some_iff] at hc; obtain ⟨te, hte, hc⟩ := hc
      split at hc <;> simp only [Option.bind_eq_some_iff, Option.some.injEq, reduceCtorEq] at hc
      obtain ⟨x', hx, rfl⟩ := hc; exact one hx
    · simp only [Option.bind_eq_some_iff] at hc; obtain ⟨te, hte, hc⟩ := hc
      split at hc
      · cases hb : Nat.beq sr d
        · simp [hb] at hc
        simp only [hb, cond_true, Option.bind_eq_some_iff, Option.some.injEq] at hc
        obtain ⟨x', hx, rfl⟩ := hc; exact one hx
      · simp at hc
    · simp at hc
  case makeInterface t x =>
    simp only [Option.bind_eq_some_iff] at hc; obtain ⟨ty, hty, hc⟩ := hc
    split at hc <;> simp only [Option.bind_eq_some_iff, Option.some.injEq, reduceCtorEq] at hc
    obtain ⟨x', hx, rfl⟩ := hc; exact one hx
  case makeFunc f first captured =>
    cases f <;> simp only [reduceCtorEq] at hc
    split at hc <;> simp only [Option.bind_eq_some_iff, Option.some.injEq, reduceCtorEq] at hc
    obtain ⟨r, hr, rfl⟩ := hc
    intro y hy
    obtain ⟨x, hx, hx2⟩ := compXs_mem hr y hy
    exact ⟨x, by simp [Op.operands] at hx ⊢; exact .inr hx, hx2⟩
  case slice t x lo hi mx =>
    cases mx <;> simp only [reduceCtorEq] at hc
    simp only [Option.bind_eq_some_iff] at hc; obtain ⟨ty, hty, hc⟩ := hc
    have fin : ∀ {x' : AX} {lo' hi' : Option AX}, compX vt ds x = some x' → compXo vt ds lo = some lo' → compXo vt ds hi = some hi' →
        ∀ y ∈ x' :: (lo'.toList ++ hi'.toList), ∃ z ∈ (Op.slice t x lo hi none).operands.toList, compX vt ds z = some y := by
      intro x' lo' hi' hx hlo hhi y hy
      simp only [List.mem_cons, List.mem_append] at hy
      rcases hy with rfl | hy | hy
      · exact ⟨x, by simp [Op.operands], hx⟩
      · obtain ⟨z, hz, hz2⟩ := compXo_mem hlo y hy
        exact ⟨z, by simp [Op.operands] at hz ⊢; simp [hz], hz2⟩
      · obtain ⟨z, hz, hz2⟩ := compXo_mem hhi y hy
        exact ⟨z, by simp [Op.operands] at hz ⊢; simp [hz], hz2⟩
    split at hc
    · simp only [Option.bind_eq_some_iff, Option.some.injEq] at hc
      obtain ⟨x', hx, lo', hlo, hi', hhi, rfl⟩ := hc
      exact fin hx hlo hhi
    · simp only [Option.bind_eq_some_iff, Option.some.injEq] at hc
      obtain ⟨_, _, x', hx, lo', hlo, hi', hhi, rfl⟩ := hc
      exact fin hx hlo hhi
  case fieldAddr t x f =>
    simp only [Option.bind_eq_some_iff] at hc; obtain ⟨ty, hty, hc⟩ := hc
    split at hc <;> simp only [Option.bind_eq_some_iff, reduceCtorEq] at hc
    obtain ⟨fl, hfl, hc⟩ := hc
    cases hb : Nat.beq fl.size 0
    · simp only [hb, cond_false, Option.some.injEq] at hc
      obtain ⟨x', hx, rfl⟩ := hc; exact one hx
    · simp [hb] at hc
  case field t x f =>
    simp only [Option.bind_eq_some_iff] at hc; obtain ⟨ty, hty, hc⟩ := hc
    split at hc <;> simp only [Option.bind_eq_some_iff, Option.some.injEq, reduceCtorEq] at hc
    obtain ⟨fl, hfl, x', hx, rfl⟩ := hc; exact one hx
  case indexAddr t x i => simp only [Option.bind_eq_some_iff, Option.some.injEq] at hc; obtain ⟨_, _, x', hx, y', hy, rfl⟩ := hc; exact two hx hy
  case index t x i =>
    simp only [Option.bind_eq_some_iff] at hc; obtain ⟨ty, hty, hc⟩ := hc
    split at hc <;> simp only [Option.bind_eq_some_iff, Option.some.injEq, reduceCtorEq] at hc
    obtain ⟨x', hx, y', hy, rfl⟩ := hc; exact two hx hy
  case extract x i => simp only [Option.bind_eq_some_iff, Option.some.injEq] at hc; obtain ⟨x', hx, rfl⟩ := hc; exact one hx
  case typeAssert x t u ok =>
    simp only [Option.bind_eq_some_iff] at hc; obtain ⟨ty, hty, hc⟩ := hc
    split at hc <;> simp only [Option.bind_eq_some_iff, Option.some.injEq, reduceCtorEq] at hc
    obtain ⟨x', hx, rfl⟩ := hc; exact one hx
  case lookup t x k ok =>
    simp only [Option.bind_eq_some_iff] at hc; obtain ⟨ty, hty, hc⟩ := hc
    split at hc <;> simp only [Option.bind_eq_some_iff, Option.some.injEq, reduceCtorEq] at hc
    obtain ⟨_, _, x', hx, y', hy, rfl⟩ := hc; exact two hx hy
  case makeSlice t l c => simp only [Option.bind_eq_some_iff, Option.some.injEq] at hc; obtain ⟨_, _, x', hx, y', hy, rfl⟩ := hc; exact two hx hy
  case makeMap t r =>
    cases r <;> simp only [Option.some.injEq, reduceCtorEq] at hc
    subst hc; simp [AOp.args]
  case defer c =>
    obtain ⟨callee, args, ats⟩ := c
    cases callee <;> simp only [reduceCtorEq] at hc
    simp only [Option.bind_eq_some_iff, Option.some.injEq] at hc
    obtain ⟨f', hf, as', has, rfl⟩ := hc
    intro y hy
    simp only [AOp.args, List.mem_cons] at hy
    rcases hy with rfl | hy
    · exact ⟨_, by simp [Op.operands, Call.operands], hf⟩
    · obtain ⟨z, hz, hz2⟩ := compXs_mem has y hy
      exact ⟨z, by simp [Op.operands, Call.operands] at hz ⊢; simp [hz], hz2⟩
  case panic x => simp only [Option.bind_eq_some_iff, Option.some.injEq] at hc; obtain ⟨x', hx, rfl⟩ := hc; exact one hx
  case call c =>
    obtain ⟨callee, args, ats⟩ := c
    cases callee with
    | value f =>
      simp only at hc
      simp only [Option.bind_eq_some_iff, Option.some.injEq] at hc
      obtain ⟨f', hf, as', has, rfl⟩ := hc
      intro y hy
      simp only [AOp.args, List.mem_cons] at hy
      rcases hy with rfl | hy
      · exact ⟨_, by simp [Op.operands, Call.operands], hf⟩
      · obtain ⟨z, hz, hz2⟩ := compXs_mem has y hy
        exact ⟨z, by simp [Op.operands, Call.operands] at hz ⊢; simp [hz], hz2⟩
    | invoke r m => simp at hc
    | builtin b =>
      have key : ∀ {l : List Operand}, args.toList = l → (∀ y ∈ a.args, ∃ x ∈ l, compX vt ds x = some y) → ∀ y ∈ a.args, ∃ x ∈ (Op.call ⟨.builtin b, args, ats⟩).operands.toList, compX vt ds x = some y := by
        intro l hl h y hy
        obtain ⟨x, hx, hx2⟩ := h y hy
        exact ⟨x, by simp [Op.operands, Call.operands]; rw [← Array.mem_toList_iff, hl]; exact hx, hx2⟩
      refine key rfl ?_
      clear key
      obtain ⟨l⟩ := args
      obtain ⟨tl⟩ := ats
      cases b <;> try (simp at hc; done)
      case recover => simp at hc; subst hc; simp [AOp.args]
      case append =>
        rcases l with _ | ⟨x, _ | ⟨y, _ | ⟨z, l⟩⟩⟩ <;> rcases tl with _ | ⟨t, _ | ⟨u, _ | ⟨q, tl⟩⟩⟩ <;> try (simp at hc; done)
        simp only [Option.bind_eq_some_iff] at hc
        obtain ⟨_, _, _, _, hc⟩ := hc
        split at hc <;> simp only [Option.bind_eq_some_iff, Option.some.injEq, reduceCtorEq] at hc
        all_goals (obtain ⟨x', hx, y', hy, rfl⟩ := hc; exact two hx hy)
      case copy =>
        rcases l with _ | ⟨x, _ | ⟨y, _ | ⟨z, l⟩⟩⟩ <;> rcases tl with _ | ⟨t, tl⟩ <;> try (simp at hc; done)
        simp only [Option.bind_eq_some_iff, Option.some.injEq] at hc
        obtain ⟨_, _, x', hx, y', hy, rfl⟩ := hc; exact two hx hy
      case clear =>
        rcases l with _ | ⟨x, _ | ⟨y, l⟩⟩ <;> rcases tl with _ | ⟨t, tl⟩ <;> try (simp at hc; done)
        simp only [Option.bind_eq_some_iff, Option.some.injEq] at hc
        obtain ⟨_, _, x', hx, rfl⟩ := hc; exact one hx
      case len =>
        rcases l with _ | ⟨x, _ | ⟨y, l⟩⟩ <;> rcases tl with _ | ⟨t, tl⟩ <;> try (simp at hc; done)
        simp only [Option.bind_eq_some_iff] at hc
        obtain ⟨_, _, hc⟩ := hc
        split at hc <;> simp only [Option.bind_eq_some_iff, Option.some.injEq, reduceCtorEq] at hc
        all_goals (obtain ⟨x', hx, rfl⟩ := hc; exact one hx)
      case max =>
        rcases l with _ | ⟨x, _ | ⟨y, _ | ⟨z, l⟩⟩⟩ <;> try (simp at hc; done)
        simp only [Option.bind_eq_some_iff, Option.some.injEq] at hc
        obtain ⟨x', hx, y', hy, rfl⟩ := hc; exact two hx hy
      case min =>
        rcases l with _ | ⟨x, _ | ⟨y, _ | ⟨z, l⟩⟩⟩ <;> try (simp at hc; done)
        simp only [Option.bind_eq_some_iff, Option.some.injEq] at hc
        obtain ⟨x', hx, y', hy, rfl⟩ := hc; exact two hx hy
end
end AM

/- Regions that draw their order: what the checks of the text tell. -/
namespace AM
open Go

/-! ### What stands ahead -/
theorem testBit_pow (a b : Nat) : (2 ^ a).testBit b = decide (a = b) := by
  rw [Nat.testBit_two_pow]
theorem ancBits_iff (acc : List Nat) (a : Nat) : ∀ (l : List Edge), (ancBits acc l).testBit a = true ↔ ∃ e ∈ l, core e = true ∧ ((acc.getD e.on 0).testBit a = true ∨ e.on = a)
  | [] => by simp [ancBits]
  | e :: l => by
    have ih := ancBits_iff acc a l
    cases hc : core e with
    | false =>
      simp only [ancBits, hc, cond_false, ih, List.mem_cons]
      constructor
      · rintro ⟨x, hx, h⟩; exact ⟨x, .inr hx, h⟩
      · rintro ⟨x, rfl | hx, h⟩
        · rw [hc] at h; simp at h
        · exact ⟨x, hx, h⟩
    | true =>
      simp only [ancBits, hc, cond_true, Nat.testBit_or, Bool.or_eq_true, ih, testBit_pow, decide_eq_true_eq, List.mem_cons]
      constructor
      · rintro ((⟨x, hx, h⟩ | h) | h)
        · exact ⟨x, .inr hx, h⟩
        · exact ⟨e, .inl rfl, hc, .inl h⟩
        · exact ⟨e, .inl rfl, hc, .inr h⟩
      · rintro ⟨x, rfl | hx, h⟩
        · rcases h.2 with h | h
          · exact .inl (.inr h)
          · exact .inr h
        · exact .inl (.inl ⟨x, hx, h⟩)
theorem ancsOf_length : ∀ (l : List Oper) (acc : List Nat), (ancsOf l acc).length = acc.length + l.length
  | [], acc => by simp [ancsOf]
  | o :: l, acc => by simp only [ancsOf, ancsOf_length l, List.length_append, List.length_cons, List.length_nil]; omega
theorem ancsOf_old : ∀ (l : List Oper) (acc : List Nat) (i : Nat), i < acc.length → (ancsOf l acc)[i]? = acc[i]?
  | [], acc, i, h => rfl
  | o :: l, acc, i, h => by
    simp only [ancsOf]
    rw [ancsOf_old l _ i (by simp; omega), List.getElem?_append_left h]
theorem ancsOf_new : ∀ (l : List Oper) (acc : List Nat) (k : Nat) (o : Oper), l[k]? = some o → (ancsOf l acc)[acc.length + k]? = some (ancBits ((ancsOf l acc).take (acc.length + k)) o.after.toList)
  | [], acc, k, o, h => by simp at h
  | q :: l, acc, 0, o, h => by
    simp only [List.getElem?_cons_zero, Option.some.injEq] at h
    subst h
    simp only [ancsOf, Nat.add_zero]
    rw [ancsOf_old l _ acc.length (by simp)]
    have : (ancsOf l (acc ++ [ancBits acc q.after.toList])).take acc.length = acc := by
      apply List.ext_getElem?
      intro i
      by_cases hi : i < acc.length
      · rw [List.getElem?_take_of_lt hi, ancsOf_old l _ i (by simp; omega), List.getElem?_append_left hi]
      · rw [List.getElem?_eq_none (by simp; omega), List.getElem?_eq_none (by omega)]
    rw [this]
    simp
  | q :: l, acc, k + 1, o, h => by
    have h' : l[k]? = some o := by simpa using h
    have := ancsOf_new l (acc ++ [ancBits acc q.after.toList]) k o h'
    simp only [List.length_append, List.length_cons, List.length_nil, Nat.zero_add] at this
    simp only [ancsOf]
    rw [show acc.length + (k + 1) = acc.length + 1 + k from by omega]
    exact this
/-- What stands ahead stands there by an edge. -/
theorem bit_edge {ops : List Oper} {k a : Nat} (h : bitAt (ancsOf ops []) k a = true) :
    ∃ o, ops[k]? = some o ∧ ∃ e ∈ o.after.toList, core e = true ∧ (e.on = a ∨ e.on < k ∧ bitAt (ancsOf ops []) e.on a = true) := by
  unfold bitAt at h
  rw [at?_eq] at h
  cases ho : ops[k]? with
  | none =>
    have : ops.length ≤ k := List.getElem?_eq_none_iff.1 ho
    rw [List.getElem?_eq_none (by rw [ancsOf_length]; simpa using this)] at h
    simp at h
  | some o =>
    refine ⟨o, rfl, ?_⟩
    have h2 := ancsOf_new ops [] k o ho
    simp only [List.length_nil, Nat.zero_add] at h2
    rw [h2] at h
    simp only at h
    obtain ⟨e, he, hc, h3⟩ := (ancBits_iff _ _ _).1 h
    refine ⟨e, he, hc, h3.symm.imp id fun h3 => ?_⟩
    by_cases hk : e.on < k
    · refine ⟨hk, ?_⟩
      rw [List.getD_eq_getElem?_getD, List.getElem?_take_of_lt hk] at h3
      unfold bitAt
      rw [at?_eq]
      cases hx : (ancsOf ops [])[e.on]? with
      | none => rw [hx] at h3; simp at h3
      | some x => rw [hx] at h3; simpa using h3
    · rw [List.getD_eq_getElem?_getD, List.getElem?_eq_none (by simp; omega)] at h3
      simp at h3

/-! ### Orders -/
theorem clashes_spec {ancs : List Nat} {k : Nat} {y : Oper × AOper × List Tmp} : ∀ {l : List (Oper × AOper × List Tmp)} {i0 : Nat}, clashes ancs k y i0 l = true → ∀ i x, l[i]? = some x → clash x y = true → bitAt ancs k (i0 + i) = true
  | [], i0, _, i, x, h, _ => by simp at h
  | z :: l, i0, hc, i, x, h, hcl => by
    simp only [clashes, Bool.and_eq_true, Bool.or_eq_true, Bool.not_eq_true'] at hc
    cases i with
    | zero =>
      simp only [List.getElem?_cons_zero, Option.some.injEq] at h
      subst h
      exact hc.1.resolve_left (by simp [hcl])
    | succ i =>
      have := clashes_spec hc.2 i x (by simpa using h) hcl
      rw [show i0 + (i + 1) = i0 + 1 + i from by omega]; exact this
theorem orders_spec {ancs : List Nat} : ∀ {l ahead : List (Oper × AOper × List Tmp)}, orders ancs ahead l = true → ∀ k y, l[k]? = some y →
    (∀ e ∈ y.1.after.toList, core e = true → e.on < ahead.length + k) ∧ ∀ i x, (ahead ++ l)[i]? = some x → i < ahead.length + k → clash x y = true → bitAt ancs (ahead.length + k) i = true
  | [], ahead, _, k, y, h => by simp at h
  | z :: l, ahead, ho, k, y, h => by
    simp only [orders, Bool.and_eq_true, List.all_eq_true, Bool.or_eq_true, Bool.not_eq_true', nblt, decide_eq_true_eq] at ho
    obtain ⟨⟨h1, h2⟩, h3⟩ := ho
    cases k with
    | zero =>
      simp only [List.getElem?_cons_zero, Option.some.injEq] at h
      subst h
      refine ⟨fun e he hc => (h1 e he).resolve_left (by simp [hc]), fun i x hx hi hcl => ?_⟩
      rw [List.getElem?_append_left (by omega)] at hx
      have := clashes_spec h2 i x hx hcl
      simpa using this
    | succ k =>
      have := orders_spec h3 k y (by simpa using h)
      simp only [List.length_append, List.length_cons, List.length_nil, Nat.zero_add, List.append_assoc, List.cons_append, List.nil_append] at this
      rw [show ahead.length + (k + 1) = ahead.length + 1 + k from by omega]
      exact this
theorem zip3_get {ops : List Oper} : ∀ {l : List Oper} {r : List AOper} {i : Nat} {o : Oper} {a : AOper}, l[i]? = some o → r[i]? = some a → (zip3 ops l r)[i]? = some (o, a, looks ops o)
  | [], r, i, o, a, h, _ => by simp at h
  | _ :: _, [], i, o, a, _, h => by simp at h
  | x :: l, y :: r, i, o, a, h, k => by
    cases i with
    | zero => simp at h k; subst h; subst k; simp [zip3]
    | succ i => simpa [zip3] using zip3_get (ops := ops) (l := l) (r := r) (by simpa using h) (by simpa using k)

/-! ### Effects -/
theorem effs_mem : ∀ {l : List AOper} {i0 e : Nat}, e ∈ effs i0 l ↔ ∃ k o, l[k]? = some o ∧ cls o.op = .eff ∧ e = i0 + k
  | [], i0, e => by simp [effs]
  | o :: l, i0, e => by
    have ih := effs_mem (l := l) (i0 := i0 + 1) (e := e)
    have main : (∃ k q, (o :: l)[k]? = some q ∧ cls q.op = .eff ∧ e = i0 + k) ↔ (cls o.op = .eff ∧ e = i0) ∨ ∃ k q, l[k]? = some q ∧ cls q.op = .eff ∧ e = i0 + 1 + k := by
      constructor
      · rintro ⟨k, q, h1, h2, h3⟩
        cases k with
        | zero => simp at h1; subst h1; exact .inl ⟨h2, h3⟩
        | succ k => exact .inr ⟨k, q, by simpa using h1, h2, by omega⟩
      · rintro (⟨h1, h2⟩ | ⟨k, q, h1, h2, h3⟩)
        · exact ⟨0, o, rfl, h1, h2⟩
        · exact ⟨k + 1, q, by simpa using h1, h2, by omega⟩
    rw [main, ← ih]
    cases hc : cls o.op <;> simp [effs, hc]
theorem effs_sorted : ∀ {l : List AOper} {i0 : Nat}, (effs i0 l).Pairwise (· < ·)
  | [], i0 => by simp [effs]
  | o :: l, i0 => by
    have ih := effs_sorted (l := l) (i0 := i0 + 1)
    cases hc : cls o.op <;> simp only [effs, hc] <;> try exact ih
    refine List.pairwise_cons.2 ⟨fun e he => ?_, ih⟩
    obtain ⟨k, _, _, _, rfl⟩ := effs_mem.1 he
    omega
theorem baseOf_spec {i : Nat} : ∀ {es : List Nat} {b : Nat}, es.Pairwise (· < ·) → (∀ e ∈ es, b ≤ e) → b ≤ i → b ≤ baseOf i es b ∧ baseOf i es b ≤ i ∧ ∀ e ∈ es, e < i → e < baseOf i es b
  | [], b, _, _, hb => ⟨Nat.le_refl _, hb, by simp⟩
  | e :: es, b, hp, hl, hb => by
    obtain ⟨h1, h2⟩ := List.pairwise_cons.1 hp
    simp only [baseOf, nblt]
    by_cases he : e < i
    · simp only [he, decide_true, cond_true]
      obtain ⟨a1, a2, a3⟩ := baseOf_spec (es := es) (b := e + 1) h2 (fun x hx => h1 x hx) he
      exact ⟨by have := hl e (by simp); omega, a2, fun x hx hxi => by
        rcases List.mem_cons.1 hx with rfl | hx
        · omega
        · exact a3 x hx hxi⟩
    · simp only [he, decide_false, cond_false]
      obtain ⟨a1, a2, a3⟩ := baseOf_spec (es := es) (b := b) h2 (fun x hx => hl x (by simp [hx])) hb
      exact ⟨a1, a2, fun x hx hxi => by
        rcases List.mem_cons.1 hx with rfl | hx
        · exact absurd hxi he
        · exact a3 x hx hxi⟩
theorem mayAt_iff {ancs : List Nat} {i b : Nat} : ∀ {es : List Nat}, mayAt ancs i b es = true ↔ ∀ e ∈ es, (e < b → bitAt ancs e i = false) ∧ (b ≤ e → bitAt ancs i e = false)
  | [] => by simp [mayAt]
  | e :: es => by
    simp only [mayAt, Bool.and_eq_true, mayAt_iff (es := es), List.mem_cons, forall_eq_or_imp, nblt]
    refine and_congr ?_ Iff.rfl
    by_cases h : e < b
    · simp only [h, decide_true, cond_true, Bool.not_eq_true']
      exact ⟨fun x => ⟨fun _ => x, fun y => by omega⟩, fun x => x.1 trivial⟩
    · simp only [h, decide_false, cond_false, Bool.not_eq_true']
      exact ⟨fun x => ⟨fun y => y.elim, fun _ => x⟩, fun x => x.2 (by omega)⟩
theorem basesFor_mem {ancs es : List Nat} {i b : Nat} : ∀ {l : List Nat}, b ∈ basesFor ancs es i l ↔ b ∈ l ∧ b ≠ baseOf i es 0 ∧ mayAt ancs i b es = true
  | [] => by simp [basesFor]
  | c :: l => by
    have ih := basesFor_mem (ancs := ancs) (es := es) (i := i) (b := b) (l := l)
    cases hc : !(Nat.beq c (baseOf i es 0)) && mayAt ancs i c es
    · simp only [basesFor, hc, cond_false, ih, List.mem_cons]
      constructor
      · rintro ⟨h1, h2⟩; exact ⟨.inr h1, h2⟩
      · rintro ⟨rfl | h1, h2⟩
        · simp [nbeq, h2.1, h2.2] at hc
        · exact ⟨h1, h2⟩
    · simp only [basesFor, hc, cond_true, ih, List.mem_cons]
      simp only [Bool.and_eq_true, Bool.not_eq_true', nbeq, decide_eq_false_iff_not] at hc
      constructor
      · rintro (rfl | ⟨h1, h2⟩)
        · exact ⟨.inl rfl, hc⟩
        · exact ⟨.inr h1, h2⟩
      · rintro ⟨rfl | h1, h2⟩
        · exact .inl rfl
        · exact .inr ⟨h1, h2⟩
theorem planAt_low {ancs es : List Nat} : ∀ {l : List AOper} {i0 n : Nat}, n < i0 → planAt (planFor ancs es i0 l) n = []
  | [], i0, n, h => by simp [planFor, planAt]
  | o :: l, i0, n, h => by
    have ih := planAt_low (ancs := ancs) (es := es) (l := l) (i0 := i0 + 1) (n := n) (by omega)
    simp only [planFor]
    split
    · split
      · exact ih
      · have : Nat.beq i0 n = false := by simp [nbeq]; omega
        simp only [planAt, this, cond_false]
        exact ih
    · exact ih
theorem planAt_eq {ancs es : List Nat} : ∀ {l : List AOper} {i0 i : Nat} {o : AOper}, l[i]? = some o → cls o.op = .read → planAt (planFor ancs es i0 l) (i0 + i) = basesFor ancs es (i0 + i) (0 :: es.map (· + 1))
  | [], i0, i, o, h, _ => by simp at h
  | q :: l, i0, i, o, h, hr => by
    cases i with
    | zero =>
      simp only [List.getElem?_cons_zero, Option.some.injEq] at h
      subst h
      simp only [planFor, hr, Nat.add_zero]
      split
      · rename_i h0
        rw [h0]; exact planAt_low (by omega)
      · rename_i h0
        simp [planAt]
    | succ i =>
      have ih := planAt_eq (ancs := ancs) (es := es) (l := l) (i0 := i0 + 1) (i := i) (by simpa using h) hr
      rw [show i0 + (i + 1) = i0 + 1 + i from by omega, ← ih]
      simp only [planFor]
      split
      · split
        · rfl
        · have : Nat.beq i0 (i0 + 1 + i) = false := by simp [nbeq]; omega
          simp only [planAt, this, cond_false]
      · rfl
theorem mem_planAt {p : Plan} {n b : Nat} (h : b ∈ planAt p n) : ∃ bs, (n, bs) ∈ p ∧ b ∈ bs := by
  induction p with
  | nil => simp [planAt] at h
  | cons x p ih =>
    obtain ⟨i, bs⟩ := x
    simp only [planAt, nbeq] at h
    by_cases hi : i = n
    · subst hi
      simp only [decide_true, cond_true] at h
      exact ⟨bs, by simp, h⟩
    · simp only [hi, decide_false, cond_false] at h
      obtain ⟨c, h1, h2⟩ := ih h
      exact ⟨c, by simp [h1], h2⟩
end AM

/- Regions that draw their order: the run as a row of states. -/
namespace AM
open Go

abbrev St := List AV × Fr × Mem
def stepT (T : Tys) (rec : Rec) (rd : Option Nat) (skip : Nat → Bool) (i : Nat) (o : AOper) (x : St) : St :=
  if skip i = true then (.und :: x.1, x.2.1, x.2.2)
  else if wants x.1 o = true then (match opRun T rec rd x.1 o.op x.2.1 x.2.2 with
    | some (.val v, fr, m) => (v :: x.1, fr.put o.dst v, m)
    | _ => (.und :: x.1, x.2.1, x.2.2))
  else (.und :: x.1, x.2.1.put o.dst .und, x.2.2)
def stAt (T : Tys) (rec : Rec) (rd : Option Nat) (skip : Nat → Bool) (l : List AOper) (x : St) : Nat → St
  | 0 => x
  | i + 1 => match l[i]? with
    | some o => stepT T rec rd skip i o (stAt T rec rd skip l x i)
    | none => stAt T rec rd skip l x i
section
variable {T : Tys} {rec : Rec} {rd : Option Nat} {l : List AOper} {x : St}
theorem stAt_succ {skip : Nat → Bool} {i : Nat} {o : AOper} (h : l[i]? = some o) : stAt T rec rd skip l x (i + 1) = stepT T rec rd skip i o (stAt T rec rd skip l x i) := by
  simp only [stAt, h]
theorem stAt_same {skip skip' : Nat → Bool} : ∀ {i : Nat}, (∀ k, k < i → skip k = skip' k) → stAt T rec rd skip l x i = stAt T rec rd skip' l x i
  | 0, _ => rfl
  | i + 1, h => by
    simp only [stAt, stAt_same (i := i) fun k hk => h k (by omega)]
    cases l[i]? with
    | none => rfl
    | some o => simp only [stepT, h i (by omega)]
/-- What a step of the row is. -/
inductive StepR (T : Tys) (rec : Rec) (rd : Option Nat) (skip : Nat → Bool) (i : Nat) (o : AOper) (x y : St) : Prop
  | skip (h : skip i = true) (e : y = (.und :: x.1, x.2.1, x.2.2))
  | out (h : skip i = false) (hw : wants x.1 o = false) (e : y = (.und :: x.1, x.2.1.put o.dst .und, x.2.2))
  | val (h : skip i = false) (hw : wants x.1 o = true) (v : AV) (fr : Fr) (m : Mem) (k : opRun T rec rd x.1 o.op x.2.1 x.2.2 = some (.val v, fr, m)) (e : y = (v :: x.1, fr.put o.dst v, m))
def Good (T : Tys) (rec : Rec) (rd : Option Nat) (skip : Nat → Bool) (i : Nat) (o : AOper) (x : St) : Prop :=
  skip i = true ∨ wants x.1 o = false ∨ ∃ v fr m, opRun T rec rd x.1 o.op x.2.1 x.2.2 = some (.val v, fr, m)
theorem Good.step {skip : Nat → Bool} {i : Nat} {o : AOper} (h : Good T rec rd skip i o x) : StepR T rec rd skip i o x (stepT T rec rd skip i o x) := by
  cases hs : skip i with
  | true => exact .skip hs (by simp [stepT, hs])
  | false =>
    cases hw : wants x.1 o with
    | false => exact .out hs hw (by simp [stepT, hs, hw])
    | true =>
      rcases h with h | h | ⟨v, fr, m, h⟩
      · rw [hs] at h; simp at h
      · rw [hw] at h; simp at h
      · exact .val hs hw v fr m h (by simp [stepT, hs, hw, h])
/-- The memories that were noted. -/
def Noted (l : List AOper) (n : Nat) (st : Nat → St) (sl : List (Nat × Mem)) : Prop :=
  ∀ b, b ∈ 0 :: (effs 0 l).map (· + 1) → b ≤ n → getM sl b = some (st b).2.2
theorem getM_cons (b : Nat) (m : Mem) (sl : List (Nat × Mem)) (n : Nat) : getM ((b, m) :: sl) n = if b = n then some m else getM sl n := by
  simp only [getM, nbeq]
  by_cases h : b = n <;> simp [h]
theorem Noted.next {n : Nat} {st : Nat → St} {sl : List (Nat × Mem)} (h : Noted l n st sl) {o : AOper} (ho : l[n]? = some o) :
    Noted l (n + 1) st (match cls o.op with | .eff => (n + 1, (st (n + 1)).2.2) :: sl | _ => sl) := by
  intro b hb hn
  by_cases hbn : b = n + 1
  · subst hbn
    have : cls o.op = .eff := by
      simp only [List.mem_cons, List.mem_map, Nat.add_one_ne_zero, false_or] at hb
      obtain ⟨e, he, hen⟩ := hb
      obtain ⟨k, q, h1, h2, h3⟩ := effs_mem.1 he
      have : k = n := by omega
      subst this
      rw [ho] at h1
      simp only [Option.some.injEq] at h1
      subst h1
      exact h2
    simp [this, getM_cons]
  · have hn' : b ≤ n := by omega
    have := h b hb hn'
    cases cls o.op <;> try exact this
    dsimp only
    rw [getM_cons, if_neg (by omega)]
    exact this
def skip0 : Nat → Bool := fun _ => false
/-- What the run tells. -/
def DrawEnd (T : Tys) (rec : Rec) (rd : Option Nat) (l : List AOper) (ancs : List Nat) (plan : Plan) (vs : List AV) (st : Nat → St) (e : Ex) (fr' : Fr) (m' : Mem) : Prop :=
  (e = .normal ∧ (∀ i o, l[i]? = some o → Good T rec rd skip0 i o (st i)) ∧ fr' = (st l.length).2.1 ∧ m' = (st l.length).2.2 ∧
    ∃ sl, Noted l l.length st sl ∧ checkPlan T l (st l.length).1 vs l.length sl plan = true) ∨
  (∃ v p o fr1, l[p]? = some o ∧ wants (st p).1 o = true ∧ opRun T rec rd (st p).1 o.op (st p).2.1 (st p).2.2 = some (.panic v, fr1, m') ∧ e = .panic v ∧
    fr' = { fr1 with vars := forget fr1.vars l } ∧ (∀ i o, i < p → l[i]? = some o → Good T rec rd skip0 i o (st i)) ∧
    ∃ sl, Noted l p st sl ∧ checkPlan T l (st p).1 vs p sl plan = true ∧ idle T ancs plan sl p (p + 1) (l.drop (p + 1)) (.und :: (st p).1) (st p).2.1.vars (st p).2.2 = true)
theorem drawRun_end {ancs : List Nat} {plan : Plan} {vs : List AV} {e : Ex} {fr' : Fr} {m' : Mem} : ∀ (rest : List AOper) (n : Nat) (sl : List (Nat × Mem)), l.drop n = rest → n ≤ l.length →
    (∀ i o, i < n → l[i]? = some o → Good T rec rd skip0 i o (stAt T rec rd skip0 l x i)) → Noted l n (stAt T rec rd skip0 l x) sl →
    drawRun T rec rd l ancs plan vs n rest sl (stAt T rec rd skip0 l x n).1 (stAt T rec rd skip0 l x n).2.1 (stAt T rec rd skip0 l x n).2.2 = some (e, fr', m') →
    DrawEnd T rec rd l ancs plan vs (stAt T rec rd skip0 l x) e fr' m'
  | [], n, sl, hd, hn, hg, hN, h => by
    have hnl : n = l.length := by
      have := congrArg List.length hd
      simp at this; omega
    subst hnl
    simp only [drawRun] at h
    cases hc : checkPlan T l (stAt T rec rd skip0 l x l.length).1 vs l.length sl plan
    · simp [hc] at h
    simp only [hc, cond_true, Option.some.injEq, Prod.mk.injEq] at h
    obtain ⟨rfl, rfl, rfl⟩ := h
    exact .inl ⟨rfl, fun i o ho => hg i o (List.getElem?_eq_some_iff.1 ho).1 ho, rfl, rfl, sl, hN, hc⟩
  | o :: rest, n, sl, hd, hn, hg, hN, h => by
    have ho : l[n]? = some o := by
      have := congrArg (·[0]?) hd
      simpa using this
    have hlt : n < l.length := (List.getElem?_eq_some_iff.1 ho).1
    have hd' : l.drop (n + 1) = rest := by
      have := congrArg (List.drop 1) hd
      simpa [List.drop_drop, Nat.add_comm] using this
    have hN' := hN.next ho
    have hst := stAt_succ (T := T) (rec := rec) (rd := rd) (x := x) (skip := skip0) ho
    simp only [drawRun] at h
    cases hw : wants (stAt T rec rd skip0 l x n).1 o with
    | true =>
      simp only [hw, cond_true] at h
      split at h
      · rename_i v fr1 m1 hop
        have hst2 : stAt T rec rd skip0 l x (n + 1) = (v :: (stAt T rec rd skip0 l x n).1, fr1.put o.dst v, m1) := by
          rw [hst]; simp [stepT, skip0, hw, hop]
        refine drawRun_end rest (n + 1) _ hd' (by omega) (fun i q hi hq => ?_) hN' ?_
        · by_cases hin : i = n
          · subst hin
            rw [ho] at hq; simp at hq; subst hq
            exact .inr (.inr ⟨v, fr1, m1, hop⟩)
          · exact hg i q (by omega) hq
        · rw [hst2]
          exact h
      · rename_i v fr1 m1 hop
        cases hc : (checkPlan T l (stAt T rec rd skip0 l x n).1 vs n sl plan && idle T ancs plan sl n (n + 1) rest (.und :: (stAt T rec rd skip0 l x n).1) (stAt T rec rd skip0 l x n).2.1.vars (stAt T rec rd skip0 l x n).2.2)
        · simp [hc] at h
        simp only [hc, cond_true, Option.some.injEq, Prod.mk.injEq] at h
        obtain ⟨rfl, rfl, rfl⟩ := h
        simp only [Bool.and_eq_true] at hc
        rw [← hd'] at hc
        exact .inr ⟨v, n, o, fr1, ho, hw, hop, rfl, rfl, hg, sl, hN, hc.1, hc.2⟩
      · simp at h
    | false =>
      simp only [hw, cond_false] at h
      have hst2 : stAt T rec rd skip0 l x (n + 1) = (.und :: (stAt T rec rd skip0 l x n).1, (stAt T rec rd skip0 l x n).2.1.put o.dst .und, (stAt T rec rd skip0 l x n).2.2) := by
        rw [hst]; simp [stepT, skip0, hw]
      refine drawRun_end rest (n + 1) _ hd' (by omega) (fun i q hi hq => ?_) hN' ?_
      · by_cases hin : i = n
        · subst hin
          rw [ho] at hq; simp at hq; subst hq
          exact .inr (.inl hw)
        · exact hg i q (by omega) hq
      · rw [hst2]
        exact h

/-! ### One row of states for both ends -/
theorem opRun_pure {a : AOp} (h : cls a = .pure) {s : List AV} {fr : Fr} {m : Mem} : opRun T rec rd s a fr m = (pureOp T s fr.vars a).map fun v => (.val v, fr, m) := by
  cases a <;> simp only [cls, reduceCtorEq] at h <;> simp only [opRun, cls] <;> split <;> simp [*]
theorem opRun_read {a : AOp} (h : cls a = .read) {s : List AV} {fr : Fr} {m : Mem} : opRun T rec rd s a fr m = (readOp T s fr.vars a m).map fun v => (.val v, fr, m) := by
  cases a <;> simp only [cls, reduceCtorEq] at h <;> simp only [opRun, cls] <;> split <;> simp [*]
theorem opRun_alloc {a : AOp} (h : cls a = .alloc) {s : List AV} {fr : Fr} {m : Mem} : opRun T rec rd s a fr m = (allocOp s fr.vars a m).map fun v => (.val v.1, fr, v.2) := by
  cases a <;> simp only [cls, reduceCtorEq] at h <;> simp only [opRun, cls] <;> split <;> simp [*]
mutual
theorem same_eq : ∀ {a b : AV}, AV.same a b = true → a = b
  | .bool a, .bool b, h => by simp [AV.same] at h; rw [h]
  | .int j a, .int k b, h => by simp [AV.same] at h; rw [h.1, h.2]
  | .str a, .str b, h => by
    have h : (a == b) = true := by simpa only [AV.same] using h
    rw [ba_eq h]
  | .nilPtr, .nilPtr, _ => rfl
  | .ptr a b c, .ptr d e f, h => by simp [AV.same, and_assoc] at h; rw [h.1, h.2.1, h.2.2]
  | .nilSlc, .nilSlc, _ => rfl
  | .slc a b c d s e f, .slc a' b' c' d' s' e' f', h => by simp [AV.same, and_assoc] at h; simp [h]
  | .nilMap, .nilMap, _ => rfl
  | .map a, .map b, h => by simp [AV.same] at h; rw [h]
  | .nilFunc, .nilFunc, _ => rfl
  | .fn f a, .fn g b, h => by simp only [AV.same, Bool.and_eq_true, nbeq, decide_eq_true_eq] at h; rw [h.1, sames_eq h.2]
  | .yld a, .yld b, h => by simp [AV.same] at h; rw [h]
  | .nilIface, .nilIface, _ => rfl
  | .iface t v, .iface u w, h => by simp only [AV.same, Bool.and_eq_true, nbeq, decide_eq_true_eq] at h; rw [h.1, same_eq h.2]
  | .agg a, .agg b, h => by simp only [AV.same] at h; rw [sames_eq h]
  | .tup a, .tup b, h => by simp only [AV.same] at h; rw [sames_eq h]
theorem sames_eq : ∀ {a b : List AV}, AV.sames a b = true → a = b
  | [], [], _ => rfl
  | a :: x, b :: y, h => by simp only [AV.sames, Bool.and_eq_true] at h; rw [same_eq h.1, sames_eq h.2]
end
theorem sameAt_spec {s vs : List AV} {op : AOp} {v : AV} {sl : List (Nat × Mem)} : ∀ {bs : List Nat}, sameAt T s vs op v sl bs = true → ∀ b ∈ bs, ∀ m, getM sl b = some m → readOp T s vs op m = some v
  | [], _, b, hb, _, _ => by simp at hb
  | c :: bs, h, b, hb, m, hm => by
    simp only [sameAt, Bool.and_eq_true] at h
    rcases List.mem_cons.1 hb with rfl | hb
    · rw [hm] at h
      have := h.1
      simp only at this
      split at this
      · rename_i u hu; rw [hu, same_eq this]
      · simp at this
    · exact sameAt_spec h.2 b hb m hm
theorem checkPlan_spec {all : List AOper} {s vs : List AV} {n : Nat} {sl : List (Nat × Mem)} : ∀ {plan : Plan}, checkPlan T all s vs n sl plan = true → ∀ i bs, (i, bs) ∈ plan → i < n → ∀ o, all[i]? = some o → wants (s.drop (n - i)) o = true →
    ∀ b ∈ bs, ∀ m, getM sl b = some m → readOp T (s.drop (n - i)) vs o.op m = some (nth s (n - 1 - i))
  | [], _, i, bs, h, _, _, _, _, _, _, _, _ => by simp at h
  | (j, cs) :: plan, hc, i, bs, h, hi, o, ho, hw, b, hb, m, hm => by
    simp only [checkPlan, Bool.and_eq_true] at hc
    rcases List.mem_cons.1 h with h | h
    · simp only [Prod.mk.injEq] at h
      obtain ⟨rfl, rfl⟩ := h
      have h1 := hc.1
      have : Nat.ble n i = false := by simp [nble]; omega
      rw [this, at?_eq, ho] at h1
      simp only [cond_false, dropD_eq, hw, cond_true] at h1
      exact sameAt_spec h1 b hb m hm
    · exact checkPlan_spec hc.2 i bs h hi o ho hw b hb m hm
/-- A run of a region, as it can be met in any order. -/
structure Trace (T : Tys) (rec : Rec) (rd : Option Nat) (l : List AOper) (ancs : List Nat) (plan : Plan) (x : St) (lim : Nat) (skip : Nat → Bool) (st : Nat → St) : Prop where
  zero : st 0 = x
  step : ∀ i o, l[i]? = some o → StepR T rec rd skip i o (st i) (st (i + 1))
  late : ∀ i o, l[i]? = some o → lim ≤ i → skip i = false → cls o.op ≠ .eff ∧ o.guard = none ∧ o.dst = none
  skipA : ∀ i, skip i = true → lim < l.length ∧ (i = lim ∨ bitAt ancs i lim = true)
  read : ∀ i o, l[i]? = some o → skip i = false → wants (st i).1 o = true → cls o.op = .read → ∀ b ∈ planAt plan i, b ∈ 0 :: (effs 0 l).map (· + 1) → b ≤ lim →
    ∃ vs, (vs = x.2.1.vars ∨ (lim ≤ i ∧ vs = (st i).2.1.vars)) ∧ readOp T (st i).1 vs o.op (st b).2.2 = some (nth (st (i + 1)).1 0)
theorem StepR.cons {skip : Nat → Bool} {i : Nat} {o : AOper} {x y : St} (h : StepR T rec rd skip i o x y) : y.1 = nth y.1 0 :: x.1 := by
  cases h with
  | skip _ e => rw [e]; rfl
  | out _ _ e => rw [e]; rfl
  | val _ _ v fr m _ e => rw [e]; rfl
theorem steps_drop {skip : Nat → Bool} {st : Nat → St} {n : Nat} (hs : ∀ i o, i < n → l[i]? = some o → StepR T rec rd skip i o (st i) (st (i + 1))) (hn : n ≤ l.length) : ∀ k, k ≤ n → (st n).1.drop k = (st (n - k)).1
  | 0, _ => by simp
  | k + 1, hk => by
    have ih := steps_drop hs hn k (by omega)
    have hlt : n - k - 1 < l.length := by omega
    have h1 := (hs (n - k - 1) _ (by omega) (List.getElem?_eq_getElem hlt)).cons
    rw [show n - k - 1 + 1 = n - k from by omega] at h1
    rw [show k + 1 = 1 + k from by omega, Nat.add_comm, ← List.drop_drop, ih, h1]
    simp [show n - (k + 1) = n - k - 1 from by omega]
theorem nth_drop (s : List AV) (k : Nat) : nth s k = nth (s.drop k) 0 := by
  simp [nth_eq]
theorem trace_normal {ancs : List Nat} {plan : Plan} {sl : List (Nat × Mem)} (hg : ∀ i o, l[i]? = some o → Good T rec rd skip0 i o (stAt T rec rd skip0 l x i)) (hN : Noted l l.length (stAt T rec rd skip0 l x) sl)
    (hc : checkPlan T l (stAt T rec rd skip0 l x l.length).1 x.2.1.vars l.length sl plan = true) : Trace T rec rd l ancs plan x l.length skip0 (stAt T rec rd skip0 l x) := by
  have hstep : ∀ i o, l[i]? = some o → StepR T rec rd skip0 i o (stAt T rec rd skip0 l x i) (stAt T rec rd skip0 l x (i + 1)) := fun i o ho => by
    rw [stAt_succ ho]; exact (hg i o ho).step
  refine ⟨rfl, hstep, fun i o ho hl => ?_, fun i hi => by simp [skip0] at hi, fun i o ho _ hw hr b hb hbe hbl => ⟨_, .inl rfl, ?_⟩⟩
  · have := (List.getElem?_eq_some_iff.1 ho).1
    omega
  · obtain ⟨bs, h1, h2⟩ := mem_planAt hb
    have hi : i < l.length := (List.getElem?_eq_some_iff.1 ho).1
    have hd := steps_drop (fun i o _ ho => hstep i o ho) (Nat.le_refl _) (l.length - i) (by omega)
    rw [show l.length - (l.length - i) = i from by omega] at hd
    have := checkPlan_spec hc i bs h1 hi o ho (by rw [hd]; exact hw) b h2 _ (hN b hbe hbl)
    rw [hd] at this
    rw [this, nth_drop, steps_drop (fun i o _ ho => hstep i o ho) (Nat.le_refl _) (l.length - 1 - i) (by omega), show l.length - (l.length - 1 - i) = i + 1 from by omega]
def skipP (ancs : List Nat) (p : Nat) : Nat → Bool := fun i => i == p || (decide (p < i) && bitAt ancs i p)
theorem idle_spec {ancs : List Nat} {plan : Plan} {sl : List (Nat × Mem)} {p : Nat} {st : Nat → St} {fr : Fr} (hst : ∀ i o, p < i → l[i]? = some o → st (i + 1) = stepT T rec rd (skipP ancs p) i o (st i)) : ∀ (os : List AOper) (i : Nat), l.drop i = os → p < i → (st i).2.1 = fr →
    idle T ancs plan sl p i os (st i).1 fr.vars (st i).2.2 = true → ∀ k o, i ≤ k → l[k]? = some o → (st k).2.1 = fr ∧ Good T rec rd (skipP ancs p) k o (st k) ∧ (skipP ancs p k = false → cls o.op ≠ .eff ∧ o.guard = none ∧ o.dst = none ∧
      (cls o.op = .read → ∀ b ∈ planAt plan k, ∀ m, getM sl b = some m → readOp T (st k).1 fr.vars o.op m = some (nth (st (k + 1)).1 0)))
  | [], i, hd, hp, hfr, h, k, o, hk, ho => by
    have : l.length ≤ i := by simpa using hd
    have := (List.getElem?_eq_some_iff.1 ho).1
    omega
  | q :: os, i, hd, hp, hfr, h, k, o, hk, ho => by
    have hq : l[i]? = some q := by
      have := congrArg (·[0]?) hd
      simpa using this
    have hd' : l.drop (i + 1) = os := by
      have := congrArg (List.drop 1) hd
      simpa [List.drop_drop, Nat.add_comm] using this
    have hsi := hst i q hp hq
    have hne : (i == p) = false := by simp; omega
    simp only [idle] at h
    cases hb : bitAt ancs i p with
    | true =>
      have hskip : skipP ancs p i = true := by simp [skipP, hp, hb]
      have hs2 : st (i + 1) = (.und :: (st i).1, (st i).2.1, (st i).2.2) := by rw [hsi]; simp [stepT, hskip]
      rw [hb, cond_true] at h
      by_cases hki : k = i
      · subst hki
        rw [hq] at ho; simp at ho; subst ho
        exact ⟨hfr, .inl hskip, fun hx => by rw [hskip] at hx; simp at hx⟩
      · exact idle_spec hst os (i + 1) hd' (by omega) (by rw [hs2]; exact hfr) (by rw [hs2]; exact h) k o (by omega) ho
    | false =>
      have hskip : skipP ancs p i = false := by simp [skipP, hne, hb]
      simp only [hb, cond_false, Bool.and_eq_true, Option.isNone_iff_eq_none] at h
      obtain ⟨⟨hgu, hds⟩, h⟩ := h
      have hw : wants (st i).1 q = true := by simp [wants, hgu]
      have fin : ∀ {v : AV} {m : Mem}, opRun T rec rd (st i).1 q.op (st i).2.1 (st i).2.2 = some (.val v, fr, m) → cls q.op ≠ .eff → (cls q.op = .read → ∀ b ∈ planAt plan i, ∀ m, getM sl b = some m → readOp T (st i).1 fr.vars q.op m = some v) → idle T ancs plan sl p (i + 1) os (v :: (st i).1) fr.vars m = true →
          (st k).2.1 = fr ∧ Good T rec rd (skipP ancs p) k o (st k) ∧ (skipP ancs p k = false → cls o.op ≠ .eff ∧ o.guard = none ∧ o.dst = none ∧
            (cls o.op = .read → ∀ b ∈ planAt plan k, ∀ m, getM sl b = some m → readOp T (st k).1 fr.vars o.op m = some (nth (st (k + 1)).1 0))) := by
        intro v m hop hce hrd hid
        have hs2 : st (i + 1) = (v :: (st i).1, fr, m) := by rw [hsi]; simp [stepT, hskip, hw, hop, hds, Fr.put, putS]
        by_cases hki : k = i
        · subst hki
          rw [hq] at ho; simp at ho; subst ho
          refine ⟨hfr, .inr (.inr ⟨v, _, m, hop⟩), fun _ => ⟨hce, hgu, hds, fun hr b hbb m' hm' => ?_⟩⟩
          rw [hs2]
          exact hrd hr b hbb m' hm'
        · exact idle_spec hst os (i + 1) hd' (by omega) (by rw [hs2]) (by rw [hs2]; exact hid) k o (by omega) ho
      cases hcl : cls q.op with
      | pure =>
        simp only [hcl] at h
        split at h <;> try simp only [Bool.false_eq_true] at h
        rename_i v hv
        exact fin (by rw [opRun_pure hcl, hfr, hv]; rfl) (by rw [hcl]; simp) (fun hx => by rw [hcl] at hx; simp at hx) h
      | alloc =>
        simp only [hcl] at h
        split at h <;> try simp only [Bool.false_eq_true] at h
        rename_i v m hv
        exact fin (by rw [opRun_alloc hcl, hfr, hv]; rfl) (by rw [hcl]; simp) (fun hx => by rw [hcl] at hx; simp at hx) h
      | read =>
        simp only [hcl] at h
        split at h <;> try simp only [Bool.false_eq_true] at h
        rename_i v hv
        simp only [Bool.and_eq_true] at h
        exact fin (by rw [opRun_read hcl, hfr, hv]; rfl) (by rw [hcl]; simp) (fun _ b hbb m' hm' => sameAt_spec h.1 b hbb m' hm') h.2
      | eff => simp only [hcl, Bool.false_eq_true] at h
theorem trace_panic {ancs : List Nat} {plan : Plan} {sl : List (Nat × Mem)} {p : Nat} {o : AOper} (ho : l[p]? = some o) (hg : ∀ i o, i < p → l[i]? = some o → Good T rec rd skip0 i o (stAt T rec rd skip0 l x i)) (hN : Noted l p (stAt T rec rd skip0 l x) sl)
    (hc : checkPlan T l (stAt T rec rd skip0 l x p).1 x.2.1.vars p sl plan = true)
    (hi : idle T ancs plan sl p (p + 1) (l.drop (p + 1)) (.und :: (stAt T rec rd skip0 l x p).1) (stAt T rec rd skip0 l x p).2.1.vars (stAt T rec rd skip0 l x p).2.2 = true) :
    Trace T rec rd l ancs plan x p (skipP ancs p) (stAt T rec rd (skipP ancs p) l x) ∧ stAt T rec rd (skipP ancs p) l x p = stAt T rec rd skip0 l x p := by
  have hp : p < l.length := (List.getElem?_eq_some_iff.1 ho).1
  have hsame : ∀ i, i ≤ p → stAt T rec rd skip0 l x i = stAt T rec rd (skipP ancs p) l x i := fun i hi => stAt_same fun k hk => by
    have : (k == p) = false := by simp; omega
    have h2 : ¬ p < k := by omega
    simp [skip0, skipP, this, h2]
  have hskp : skipP ancs p p = true := by simp [skipP]
  have hstp : stAt T rec rd (skipP ancs p) l x (p + 1) = (.und :: (stAt T rec rd (skipP ancs p) l x p).1, (stAt T rec rd (skipP ancs p) l x p).2.1, (stAt T rec rd (skipP ancs p) l x p).2.2) := by
    rw [stAt_succ ho]; simp [stepT, hskp]
  rw [hsame p (Nat.le_refl _)] at hi hc ⊢
  have hid := idle_spec (T := T) (rec := rec) (rd := rd) (l := l) (ancs := ancs) (plan := plan) (sl := sl) (p := p) (st := stAt T rec rd (skipP ancs p) l x) (fr := (stAt T rec rd (skipP ancs p) l x p).2.1)
    (fun i o _ ho => stAt_succ ho) _ (p + 1) rfl (by omega) (by rw [hstp]) (by rw [hstp]; exact hi)
  have hgood : ∀ i o, l[i]? = some o → Good T rec rd (skipP ancs p) i o (stAt T rec rd (skipP ancs p) l x i) := fun i q hq => by
    by_cases h1 : i < p
    · have := hg i q h1 hq
      rw [hsame i (by omega)] at this
      exact this.imp (fun h => by simp [skip0] at h) id
    · by_cases h2 : i = p
      · subst h2; exact .inl hskp
      · exact (hid i q (by omega) hq).2.1
  have hstep : ∀ i o, l[i]? = some o → StepR T rec rd (skipP ancs p) i o (stAt T rec rd (skipP ancs p) l x i) (stAt T rec rd (skipP ancs p) l x (i + 1)) := fun i o ho => by
    rw [stAt_succ ho]; exact (hgood i o ho).step
  refine ⟨⟨rfl, hstep, fun i q hq hl hs => ?_, fun i hs => ⟨hp, ?_⟩, fun i q hq hs hw hr b hb hbe hbl => ?_⟩, rfl⟩
  · by_cases h2 : i = p
    · subst h2; rw [hskp] at hs; simp at hs
    · have := (hid i q (by omega) hq).2.2 hs
      exact ⟨this.1, this.2.1, this.2.2.1⟩
  · simp only [skipP, Bool.or_eq_true, beq_iff_eq, Bool.and_eq_true, decide_eq_true_eq] at hs
    exact hs.imp id (·.2)
  · have hNb := hN b hbe hbl
    rw [hsame b hbl] at hNb
    by_cases h1 : i < p
    · refine ⟨_, .inl rfl, ?_⟩
      obtain ⟨bs, h3, h4⟩ := mem_planAt hb
      have hd := steps_drop (st := stAt T rec rd (skipP ancs p) l x) (fun i o _ ho => hstep i o ho) (Nat.le_of_lt hp) (p - i) (by omega)
      rw [show p - (p - i) = i from by omega] at hd
      have := checkPlan_spec hc i bs h3 h1 q hq (by rw [hd]; exact hw) b h4 _ hNb
      rw [hd] at this
      rw [this, nth_drop, steps_drop (st := stAt T rec rd (skipP ancs p) l x) (fun i o _ ho => hstep i o ho) (Nat.le_of_lt hp) (p - 1 - i) (by omega), show p - (p - 1 - i) = i + 1 from by omega]
    · by_cases h2 : i = p
      · subst h2; rw [hskp] at hs; simp at hs
      · have h3 := hid i q (by omega) hq
        refine ⟨_, .inr ⟨by omega, rfl⟩, ?_⟩
        rw [h3.1]
        exact (h3.2.2 hs).2.2.2 hr b hb _ hNb
end
end AM

/- Regions that draw their order: the text's facts together; operands under a mask. -/
namespace AM
open Go

def dsAt (ops : List Oper) (i : Nat) : List (Option Tmp) := ((ops.take i).map (·.dst)).reverse
def guardOf (ds : List (Option Tmp)) (n : Nat) (o : Oper) : Option (Option (Nat × Bool)) := match o.guard with
  | none => some none
  | some (j, want) => match at? ds (n - 1 - j) with
    | some (some d) => match idxOp d ds with
      | some i => bif Nat.beq i (n - 1 - j) && Nat.blt j n then some (some (i, want)) else none
      | none => none
    | _ => none
theorem compOps_get {T : Tys} {vt : List Tmp} {nt : Nat} : ∀ (l done : List Oper) {aops : List AOper}, compOps T vt nt ((done.map (·.dst)).reverse) done.length l = some aops →
    aops.length = l.length ∧ ∀ i o, l[i]? = some o → ∃ a g, aops[i]? = some { dst := dstOf vt o.dst, op := a, guard := g } ∧ compOp T vt (dsAt (done ++ l) (done.length + i)) o.op = some a ∧ guardOf (dsAt (done ++ l) (done.length + i)) (done.length + i) o = some g ∧ ∀ d, o.dst = some d → d < nt
  | [], done, aops, h => by simp only [compOps, Option.some.injEq] at h; subst h; simp
  | o :: l, done, aops, h => by
    obtain ⟨a, g, r, ha, hg, hr, hd, rfl⟩ := compOps_cons h
    have hl : (done ++ [o]).length = done.length + 1 := by simp
    have hr' : compOps T vt nt (((done ++ [o]).map (·.dst)).reverse) (done ++ [o]).length l = some r := by rw [hl]; simpa using hr
    obtain ⟨h1, h2⟩ := compOps_get l (done ++ [o]) hr'
    refine ⟨by simp [h1], fun i q hq => ?_⟩
    cases i with
    | zero =>
      simp only [List.getElem?_cons_zero, Option.some.injEq] at hq
      subst hq
      have : dsAt (done ++ o :: l) (done.length + 0) = (done.map (·.dst)).reverse := by simp [dsAt]
      rw [this]
      exact ⟨a, g, rfl, ha, hg, hd⟩
    | succ i =>
      have := h2 i q (by simpa using hq)
      rw [hl, show (done ++ [o]) ++ l = done ++ o :: l from by simp, show done.length + 1 + i = done.length + (i + 1) from by omega] at this
      simpa using this
structure Reg (T : Tys) (vt : List Tmp) (nt : Nat) (ops : Array Oper) (l : List AOper) (ancs : List Nat) (plan : Plan) : Prop where
  len : l.length = ops.size
  op : ∀ i o, ops[i]? = some o → ∃ a g, l[i]? = some { dst := dstOf vt o.dst, op := a, guard := g } ∧ compOp T vt (dsAt ops.toList i) o.op = some a ∧ guardOf (dsAt ops.toList i) i o = some g ∧ ∀ d, o.dst = some d → d < nt
  back : ∀ i o, ops[i]? = some o → ∀ e ∈ o.after.toList, core e = true → e.on < i
  clash : ∀ i k x ax y ay, ops[i]? = some x → l[i]? = some ax → ops[k]? = some y → l[k]? = some ay → i < k → clash (x, ax, looks ops.toList x) (y, ay, looks ops.toList y) = true → bitAt ancs k i = true
  anc : ancs = ancsOf ops.toList []
  plan : plan = planFor ancs (effs 0 l) 0 l
theorem reg_of {T : Tys} {vt : List Tmp} {nt id : Nat} {ops : Array Oper} {l : List AOper} {ancs : List Nat} {plan : Plan} (h : comp T vt nt (.region id ops true) = .draw l ancs plan) : Reg T vt nt ops l ancs plan := by
  simp only [comp] at h
  cases hc : compOps T vt nt [] 0 ops.toList with
  | none => rw [hc] at h; simp at h
  | some r =>
    rw [hc] at h
    simp only [cond_true] at h
    cases ho : orders (ancsOf ops.toList []) [] (zip3 ops.toList ops.toList r)
    · rw [ho] at h; simp at h
    rw [ho] at h
    simp only [cond_true, ACode.draw.injEq] at h
    obtain ⟨rfl, rfl, rfl⟩ := h
    obtain ⟨h1, h2⟩ := compOps_get ops.toList [] hc
    simp only [List.nil_append, List.length_nil, Nat.zero_add] at h1 h2
    have hz : ∀ {i : Nat} {x : Oper} {ax : AOper}, ops[i]? = some x → r[i]? = some ax → (zip3 ops.toList ops.toList r)[i]? = some (x, ax, looks ops.toList x) := fun hx hax => zip3_get (by simpa using hx) hax
    refine ⟨by simpa using h1, fun i o ho => h2 i o (by simpa using ho), fun i o hoo e he hce => ?_, fun i k x ax y ay hx hax hy hay hik hcl => ?_, rfl, rfl⟩
    · obtain ⟨a, g, ha, _⟩ := h2 i o (by simpa using hoo)
      have := (orders_spec ho i _ (hz hoo ha)).1 e he hce
      simpa using this
    · have := (orders_spec ho k _ (hz hy hay)).2 i _ (by simpa using hz hx hax) (by simpa using hik) hcl
      simpa using this

theorem mem_tmpsOf {u : Tmp} : ∀ {l : List Operand}, u ∈ tmpsOf l ↔ Operand.tmp u ∈ l
  | [] => by simp [tmpsOf]
  | x :: l => by
    have ih := mem_tmpsOf (u := u) (l := l)
    cases x <;> simp [tmpsOf, ih]
theorem hasT_iff {d : Option Tmp} {l : List Tmp} : hasT d l = true ↔ ∃ u, d = some u ∧ u ∈ l := by
  cases d with
  | none => simp [hasT]
  | some u =>
    have : ∀ x, Nat.beq u x = true ↔ u = x := fun x => by rw [nbeq]; simp
    simp [hasT, this]
theorem looks_operand {ops : List Oper} {o : Oper} {u : Tmp} (h : Operand.tmp u ∈ o.op.operands.toList) : u ∈ looks ops o := by
  have h' := mem_tmpsOf.2 h
  unfold looks
  split
  · exact h'
  · split
    · split
      · exact List.mem_cons_of_mem _ h'
      · exact h'
    · exact h'
theorem looks_guard {ops : List Oper} {o q : Oper} {j : Nat} {want : Bool} {d : Tmp} (hg : o.guard = some (j, want)) (hq : ops[j]? = some q) (hd : q.dst = some d) : d ∈ looks ops o := by
  unfold looks
  rw [hg]
  simp only [at?_eq, hq, hd]
  exact List.mem_cons_self
section
variable {T : Tys} {vt : List Tmp} {nt : Nat} {ops : Array Oper} {l : List AOper} {ancs : List Nat} {plan : Plan}
theorem Reg.get (R : Reg T vt nt ops l ancs plan) {i : Nat} (h : i < l.length) : ∃ o, ops[i]? = some o := ⟨_, Array.getElem?_eq_getElem (by rw [← R.len]; exact h)⟩
theorem Reg.lt (R : Reg T vt nt ops l ancs plan) {i : Nat} {o : Oper} (h : ops[i]? = some o) : i < l.length := by rw [R.len]; exact lt_of_some h
/-- A slot that is looked at, written ahead. -/
theorem Reg.read (R : Reg T vt nt ops l ancs plan) {i k : Nat} {o q : Oper} {u : Tmp} (ho : ops[i]? = some o) (hq : ops[k]? = some q) (hu : u ∈ looks ops.toList o) (hd : q.dst = some u) (hne : k ≠ i) :
    if k < i then bitAt ancs i k = true else bitAt ancs k i = true := by
  obtain ⟨a, g, ha, _⟩ := R.op i o ho
  obtain ⟨b, g', hb, _⟩ := R.op k q hq
  by_cases h : k < i
  · rw [if_pos h]
    refine R.clash k i _ _ _ _ hq hb ho ha h ?_
    simp only [AM.clash, Bool.or_eq_true]
    exact .inl (.inl (.inr (hasT_iff.2 ⟨u, hd, hu⟩)))
  · rw [if_neg h]
    refine R.clash i k _ _ _ _ ho ha hq hb (by omega) ?_
    simp only [AM.clash, Bool.or_eq_true]
    exact .inl (.inr (hasT_iff.2 ⟨u, hd, hu⟩))
theorem Reg.write (R : Reg T vt nt ops l ancs plan) {i k : Nat} {o q : Oper} {u : Tmp} (ho : ops[i]? = some o) (hq : ops[k]? = some q) (hu : o.dst = some u) (hd : q.dst = some u) (hlt : i < k) : bitAt ancs k i = true := by
  obtain ⟨a, g, ha, _⟩ := R.op i o ho
  obtain ⟨b, g', hb, _⟩ := R.op k q hq
  refine R.clash i k _ _ _ _ ho ha hq hb hlt ?_
  simp only [AM.clash, Bool.or_eq_true]
  refine .inr (hasT_iff.2 ⟨u, hu, ?_⟩)
  simp [hd]
theorem Reg.eff (R : Reg T vt nt ops l ancs plan) {i k : Nat} {x y : AOper} (hx : l[i]? = some x) (hy : l[k]? = some y) (hk : cls y.op = .eff) (hi : cls x.op = .eff ∨ cls x.op = .alloc) (hlt : i < k) : bitAt ancs k i = true := by
  obtain ⟨o, ho⟩ := R.get (List.getElem?_eq_some_iff.1 hx).1
  obtain ⟨q, hq⟩ := R.get (List.getElem?_eq_some_iff.1 hy).1
  refine R.clash i k _ _ _ _ ho hx hq hy hlt ?_
  simp only [AM.clash, Bool.or_eq_true]
  refine .inl (.inl (.inl ?_))
  rcases hi with hi | hi <;> simp [isEff, isAlloc, hk, hi]
theorem bit_lt (R : Reg T vt nt ops l ancs plan) : ∀ {k a : Nat}, bitAt ancs k a = true → a < k := by
  intro k
  induction k using Nat.strongRecOn with
  | ind k ih =>
    intro a h
    rw [R.anc] at h
    obtain ⟨o, ho, e, he, hc, hx⟩ := bit_edge h
    have := R.back k o (by simpa using ho) e he hc
    rcases hx with rfl | ⟨h1, h2⟩
    · exact this
    · rw [← R.anc] at h2
      have := ih _ h1 h2
      omega
theorem dsAt_get {ops : List Oper} {i idx : Nat} (hi : i ≤ ops.length) {d : Option Tmp} : (dsAt ops i)[idx]? = some d ↔ idx < i ∧ ∃ q, ops[i - 1 - idx]? = some q ∧ q.dst = d := by
  unfold dsAt
  constructor
  · intro h
    have h1 := (List.getElem?_eq_some_iff.1 h).1
    simp at h1
    rw [List.getElem?_reverse (by simpa using h1)] at h
    simp only [List.length_map, List.length_take, Nat.min_eq_left hi, List.getElem?_map, Option.map_eq_some_iff] at h
    obtain ⟨q, hq, hd⟩ := h
    rw [List.getElem?_take_of_lt (by omega)] at hq
    exact ⟨by omega, q, hq, hd⟩
  · rintro ⟨h1, q, hq, rfl⟩
    rw [List.getElem?_reverse (by simp; omega)]
    simp only [List.length_map, List.length_take, Nat.min_eq_left hi, List.getElem?_map, Option.map_eq_some_iff]
    exact ⟨q, by rw [List.getElem?_take_of_lt (by omega)]; exact hq, rfl⟩
theorem idxOp_spec {u : Tmp} : ∀ {ds : List (Option Tmp)} {i : Nat}, idxOp u ds = some i → ds[i]? = some (some u) ∧ ∀ k, k < i → ds[k]? ≠ some (some u)
  | [], i, h => by simp [idxOp] at h
  | some d :: ds, i, h => by
    simp only [idxOp, nbeq] at h
    by_cases hd : d = u
    · simp only [hd, decide_true, cond_true, Option.some.injEq] at h
      subst h; subst hd
      exact ⟨rfl, fun k hk => by omega⟩
    · simp only [hd, decide_false, cond_false] at h
      split at h <;> simp only [Option.some.injEq, reduceCtorEq] at h
      rename_i j hj
      subst h
      obtain ⟨h1, h2⟩ := idxOp_spec hj
      refine ⟨by simpa using h1, fun k hk => ?_⟩
      cases k with
      | zero => simpa using hd
      | succ k => simpa using h2 k (by omega)
  | none :: ds, i, h => by
    simp only [idxOp] at h
    split at h <;> simp only [Option.some.injEq, reduceCtorEq] at h
    rename_i j hj
    subst h
    obtain ⟨h1, h2⟩ := idxOp_spec hj
    refine ⟨by simpa using h1, fun k hk => ?_⟩
    cases k with
    | zero => simp
    | succ k => simpa using h2 k (by omega)
theorem idxOp_none {u : Tmp} : ∀ {ds : List (Option Tmp)}, idxOp u ds = none → ∀ k : Nat, ds[k]? ≠ some (some u)
  | [], _, k => by simp
  | some d :: ds, h, k => by
    simp only [idxOp, nbeq] at h
    by_cases hd : d = u
    · simp [hd] at h
    · simp only [hd, decide_false, cond_false] at h
      split at h <;> simp only [reduceCtorEq] at h
      rename_i hj
      cases k with
      | zero => simpa using hd
      | succ k => simpa using idxOp_none hj k
  | none :: ds, h, k => by
    simp only [idxOp] at h
    split at h <;> simp only [reduceCtorEq] at h
    rename_i hj
    cases k with
    | zero => simp
    | succ k => simpa using idxOp_none hj k
/-- The last writer ahead. -/
theorem writer_some {ops : List Oper} {i idx : Nat} {u : Tmp} (hi : i ≤ ops.length) (h : idxOp u (dsAt ops i) = some idx) : idx < i ∧ (∃ q, ops[i - 1 - idx]? = some q ∧ q.dst = some u) ∧ ∀ k q, k < i → ops[k]? = some q → q.dst = some u → k ≤ i - 1 - idx := by
  obtain ⟨h1, h2⟩ := idxOp_spec h
  obtain ⟨h3, h4⟩ := (dsAt_get hi).1 h1
  refine ⟨h3, h4, fun k q hk hq hd => ?_⟩
  by_cases hx : k ≤ i - 1 - idx
  · exact hx
  · refine absurd ((dsAt_get (idx := i - 1 - k) hi).2 ⟨by omega, q, ?_, hd⟩) (h2 _ (by omega))
    rw [show i - 1 - (i - 1 - k) = k from by omega]; exact hq
theorem writer_none {ops : List Oper} {i : Nat} {u : Tmp} (hi : i ≤ ops.length) (h : idxOp u (dsAt ops i) = none) : ∀ k q, k < i → ops[k]? = some q → q.dst ≠ some u := by
  intro k q hk hq hd
  refine idxOp_none h (i - 1 - k) ((dsAt_get hi).2 ⟨by omega, q, ?_, hd⟩)
  rw [show i - 1 - (i - 1 - k) = k from by omega]; exact hq
end
end AM

/- Regions that draw their order: memory in its growth; the ghost cut; masks. -/
namespace AM
open Go

/-! ### The ghost below a number -/
def Gh.below (σ : Gh) (n : Nat) : Gh := fun o g => if o < n then σ o g else none
theorem Gh.below_lt {σ : Gh} {n o g : Nat} (h : o < n) : σ.below n o g = σ o g := if_pos h
theorem Gh.below_some {σ : Gh} {n o g : Nat} {l : Loc} (h : σ.below n o g = some l) : o < n ∧ σ o g = some l := by
  unfold Gh.below at h
  split at h
  · exact ⟨by assumption, h⟩
  · simp at h
theorem Gh.below_le (σ : Gh) (n : Nat) : (σ.below n).le σ := fun _ _ _ h => (Gh.below_some h).2
theorem Gh.below_mono {σ σ' : Gh} (h : σ.le σ') {n n' : Nat} (hn : n ≤ n') : (σ.below n).le (σ'.below n') := fun o g l k => by
  obtain ⟨h1, h2⟩ := Gh.below_some k
  rw [Gh.below_lt (by omega)]
  exact h _ _ _ h2
theorem Gh.below_all {σ : Gh} {n : Nat} (h : ∀ o g l, σ o g = some l → o < n) : σ.below n = σ := by
  funext o g
  unfold Gh.below
  split
  · rfl
  · cases hx : σ o g with
    | none => rfl
    | some l => exact absurd (h _ _ _ hx) (by assumption)
theorem Keep.mono {ρ ρ' : Gh} {w w' : World} (h : Keep ρ w w') (hle : ρ.le ρ') : Keep ρ' w w' :=
  ⟨h.os, h.tape, h.output, h.size, fun k hk hn => h.block k hk fun o g l hl hr => hn o g l (hle _ _ _ hl) hr⟩
/-- The relation, in a world with more blocks. -/
theorem MR.more {T : Tys} {ρ : Gh} {m : Mem} {w w' : World} (H : MR T ρ m w) (hs : w.heap.size ≤ w'.heap.size) (hb : ∀ k, k < w.heap.size → w'.heap[k]? = w.heap[k]?) : MR T ρ m w' :=
  ⟨H.dom, fun o g l hl => Nat.lt_of_lt_of_le (H.inb o g l hl) hs, H.sep, fun o x hx => (H.obj o x hx).keep (Gh.le.refl _) (fun g l hl => hb _ (H.inb o g l hl)) (fun _ h => h), H.fresh⟩
/-- A block that lies there already becomes an object. -/
theorem MR.absorb {T : Tys} {σ : Gh} {m : Mem} {w : World} (H : MR T (σ.below m.next) m w) (inb : ∀ o g l, σ o g = some l → l.block < w.heap.size)
    (sep : ∀ o g l o' g' l', σ o g = some l → σ o' g' = some l' → l.rw = true → l.block = l'.block → o = o') {x : Obj} (hx : ObjR T (σ.below (m.next + 1)) m.next w x) :
    MR T (σ.below (m.push x).next) (m.push x) w := by
  refine ⟨fun o g l h => (Gh.below_some h).1, fun o g l h => inb o g l (Gh.below_some h).2, fun o g l o' g' l' h h' hr hb => sep o g l o' g' l' (Gh.below_some h).2 (Gh.below_some h').2 hr hb, fun o y hy => ?_, fun o ho => ?_⟩
  · rw [Mem.get_push] at hy
    by_cases e : o = m.next
    · subst e; simp at hy; subst hy; exact hx
    · rw [if_neg e] at hy
      have hlt : o < m.next := Nat.lt_of_not_le fun hle => by have := H.fresh o hle; rw [this] at hy; simp at hy
      exact (H.obj o y hy).keep (Gh.below_mono (Gh.le.refl _) (by simp)) (fun _ _ _ => rfl) (fun g hg => by rw [Gh.below_lt hlt] at hg; rw [Gh.below_lt (by simp; omega)]; exact hg)
  · have h2 : m.next + 1 ≤ o := ho
    rw [Mem.get_push, if_neg (by omega)]
    exact H.fresh o (by omega)

/-! ### Memory grows -/
def RecMono (rec : Rec) : Prop := ∀ r m res m', rec r m = some (res, m') → m.next ≤ m'.next
theorem Mem.write_next {m m' : Mem} {o g off : Nat} {vs : List AV} (h : m.write o g off vs = some m') : m'.next = m.next := by
  unfold Mem.write at h
  split at h
  · rename_i r hr
    cases hb : (!r.ro && g.beq r.gen && vs.all AV.one) <;> simp only [hb, cond_true, cond_false, reduceCtorEq] at h
    split at h <;> simp only [Option.some.injEq, reduceCtorEq] at h
    subst h; rfl
  · simp at h
theorem putV_next {T : Tys} {kt : TypeId} {x k v : AV} {m m' : Mem} (h : putV T kt x k v m = some m') : m'.next = m.next := by
  unfold putV at h
  simp only [cond_eq_ite] at h
  repeat' split at h
  all_goals first | (simp only [reduceCtorEq] at h; done) | (simp only [Option.some.injEq] at h; subst h; rfl)
theorem effOp_next {T : Tys} {s vs : List AV} {a : AOp} {m m' : Mem} {v : AV} (h : effOp T s vs a m = some (v, m')) : m.next ≤ m'.next := by
  cases a <;> simp only [effOp, reduceCtorEq] at h
  case store size a x =>
    split at h <;> simp only [Option.some.injEq, Prod.mk.injEq, reduceCtorEq] at h
    rename_i m1 hs
    obtain ⟨_, rfl⟩ := h
    unfold storeA at hs
    simp only [cond_eq_ite] at hs
    split at hs <;> try simp only [reduceCtorEq] at hs
    split at hs <;> try simp only [reduceCtorEq] at hs
    exact Nat.le_of_eq (Mem.write_next hs).symm
  case put kt x k w =>
    split at h <;> simp only [Option.some.injEq, Prod.mk.injEq, reduceCtorEq] at h
    rename_i m1 hs
    obtain ⟨_, rfl⟩ := h
    exact Nat.le_of_eq (putV_next hs).symm
  case append e es bytes x y =>
    unfold appendV at h
    simp only [cond_eq_ite] at h
    repeat' split at h
    all_goals simp only [Option.some.injEq, Prod.mk.injEq, reduceCtorEq] at h
    all_goals obtain ⟨_, rfl⟩ := h
    all_goals first | exact Nat.le_refl _ | (simp; done) | exact Nat.le_of_eq (Mem.write_next (by assumption)).symm
  case copy es x y =>
    unfold copyV at h
    simp only [cond_eq_ite] at h
    repeat' split at h
    all_goals simp only [Option.some.injEq, Prod.mk.injEq, reduceCtorEq] at h
    all_goals obtain ⟨_, rfl⟩ := h
    all_goals first | exact Nat.le_refl _ | exact Nat.le_of_eq (Mem.write_next (by assumption)).symm
  case clr es zero x =>
    unfold clrV at h
    simp only [cond_eq_ite] at h
    repeat' split at h
    all_goals simp only [Option.some.injEq, Prod.mk.injEq, reduceCtorEq] at h
    all_goals obtain ⟨_, rfl⟩ := h
    all_goals first | exact Nat.le_refl _ | exact Nat.le_of_eq (Mem.write_next (by assumption)).symm
  case mark x =>
    simp only [cond_eq_ite] at h
    repeat' split at h
    all_goals simp only [Option.some.injEq, Prod.mk.injEq, reduceCtorEq] at h
    all_goals obtain ⟨_, rfl⟩ := h
    exact Nat.le_refl _
theorem allocOp_next {s vs : List AV} {a : AOp} {m m' : Mem} {v : AV} (h : allocOp s vs a m = some (v, m')) : m'.next = m.next + 1 := by
  rw [allocOp_eq] at h
  cases hp : allocP s vs a with
  | none => rw [hp] at h; simp at h
  | some p => rw [hp] at h; simp at h; rw [← h.2]; rfl
theorem callV_next {rec : Rec} (hr : RecMono rec) {f : AV} {args : List AV} {m m' : Mem} {r : OpR} (h : callV rec f args m = some (r, m')) : m.next ≤ m'.next := by
  unfold callV at h
  simp only [cond_eq_ite] at h
  split at h
  · split at h <;> simp only [Option.some.injEq, Prod.mk.injEq, reduceCtorEq] at h
    all_goals (rename_i hc; obtain ⟨_, rfl⟩ := h; exact hr _ _ _ _ hc)
  · split at h <;> try simp only [reduceCtorEq] at h
    split at h <;> try simp only [reduceCtorEq] at h
    split at h <;> try simp only [reduceCtorEq] at h
    rename_i h1
    have h1 := hr _ _ _ _ h1
    split at h <;> try simp only [reduceCtorEq] at h
    split at h <;> try simp only [reduceCtorEq] at h
    rename_i h2
    have h2 := hr _ _ _ _ h2
    simp only [Mem.next_set] at h2
    split at h <;> try simp only [reduceCtorEq] at h
    split at h
    · simp only [Option.some.injEq, Prod.mk.injEq] at h
      obtain ⟨_, rfl⟩ := h
      omega
    · split at h <;> simp only [Option.some.injEq, Prod.mk.injEq, reduceCtorEq] at h
      obtain ⟨_, rfl⟩ := h
      simp only [Mem.next_set]
      omega
  · simp at h
theorem opRun_next {T : Tys} {rec : Rec} (hr : RecMono rec) {rd : Option Nat} {s : List AV} {a : AOp} {fr fr' : Fr} {m m' : Mem} {r : OpR} (h : opRun T rec rd s a fr m = some (r, fr', m')) : m.next ≤ m'.next := by
  cases a
  case call f as =>
    simp only [opRun] at h
    split at h <;> simp only [Option.some.injEq, Prod.mk.injEq, reduceCtorEq] at h
    rename_i hc
    obtain ⟨_, _, rfl⟩ := h
    exact callV_next hr hc
  case recov =>
    simp only [opRun] at h
    repeat' split at h
    all_goals simp only [Option.some.injEq, Prod.mk.injEq, reduceCtorEq] at h
    all_goals (obtain ⟨_, _, rfl⟩ := h; exact Nat.le_refl _)
  case defer f as =>
    simp only [opRun] at h
    repeat' split at h
    all_goals simp only [Option.some.injEq, Prod.mk.injEq, reduceCtorEq] at h
    all_goals (obtain ⟨_, _, rfl⟩ := h; exact Nat.le_refl _)
  case pan x =>
    simp only [opRun] at h
    repeat' split at h
    all_goals simp only [Option.some.injEq, Prod.mk.injEq, reduceCtorEq] at h
    all_goals (obtain ⟨_, _, rfl⟩ := h; exact Nat.le_refl _)
  all_goals
    simp only [opRun] at h
    dsimp only [cls] at h
    split at h <;> simp only [Option.some.injEq, Prod.mk.injEq, reduceCtorEq] at h
    rename_i hc
    obtain ⟨_, _, rfl⟩ := h
    first | exact Nat.le_refl _ | exact effOp_next hc | (have := allocOp_next hc; omega)

/-! ### Masks -/
def maskT (U : List Tmp) (t : Array Value) : Array Value := Array.ofFn (n := t.size) fun u => if u.1 ∈ U then t.getD u undef else undef
theorem maskT_size (U : List Tmp) (t : Array Value) : (maskT U t).size = t.size := by simp [maskT]
theorem maskT_get (U : List Tmp) (t : Array Value) (u : Nat) : (maskT U t).getD u undef = if u ∈ U then t.getD u undef else undef := by
  unfold maskT
  rw [Array.getD_eq_getD_getElem?, Array.getElem?_ofFn]
  by_cases h : u < t.size
  · simp [h]
  · have : t.getD u undef = undef := by simp [Array.getD_eq_getD_getElem?, h]
    rw [dif_neg h, this]
    simp
def maskS (U : List Tmp) (ds : List (Option Tmp)) (s : List AV) : List AV := s.mapIdx fun i v => match ds[i]? with
  | some (some u) => if u ∈ U then v else .und
  | _ => .und
def maskV (U : List Tmp) (vt : List Tmp) (vs : List AV) : List AV := vs.mapIdx fun j v => match vt[j]? with
  | some u => if u ∈ U then v else .und
  | none => .und
section
variable {T : Tys} {vt : List Tmp} {nt : Nat} {ρ : Gh}
/-- Under the mask all is told. -/
theorem mask_sr {U : List Tmp} {ds : List (Option Tmp)} {s vs : List AV} {t : Array Value} (hn : vt.Nodup) (hnt : nt ≤ t.size) (hds : ∀ d, some d ∈ ds → d < nt) (hls : ds.length ≤ s.length) (hlv : ∀ j u, vt[j]? = some u → u < t.size ∧ j < vs.length)
    (hs : ∀ u ∈ U, ∀ i, idxOp u ds = some i → VR ρ (nth s i) (t.getD u undef)) (hv : ∀ u ∈ U, ∀ j, vt[j]? = some u → VR ρ (nth vs j) (t.getD u undef)) : SR ρ vt nt ds (maskS U ds s) (maskV U vt vs) (maskT U t) := by
  refine ⟨hn, by rw [maskT_size]; exact hnt, fun u i hi => ?_, fun j u hj => ?_⟩
  · obtain ⟨h1, _⟩ := idxOp_spec hi
    refine ⟨hds u (List.mem_of_getElem? h1), ?_⟩
    have hlt : i < s.length := Nat.lt_of_lt_of_le (List.getElem?_eq_some_iff.1 h1).1 hls
    rw [maskT_get]
    refine ⟨_, by simp only [maskS, List.getElem?_mapIdx, List.getElem?_eq_getElem hlt, Option.map_some, h1]; rfl, ?_⟩
    by_cases hu : u ∈ U
    · rw [if_pos hu, if_pos hu]
      have := hs u hu i hi
      rw [nth_eq, List.getElem?_eq_getElem hlt] at this
      exact this
    · rw [if_neg hu, if_neg hu]; exact .und
  · obtain ⟨h1, h2⟩ := hlv j u hj
    refine ⟨by rw [maskT_size]; exact h1, _, by simp only [maskV, List.getElem?_mapIdx, List.getElem?_eq_getElem h2, Option.map_some, hj]; rfl, ?_⟩
    rw [maskT_get]
    by_cases hu : u ∈ U
    · rw [if_pos hu, if_pos hu]
      have := hv u hu j hj
      rw [nth_eq, List.getElem?_eq_getElem h2] at this
      exact this
    · rw [if_neg hu, if_neg hu]; exact .und
theorem mask_ev {U : List Tmp} {ds : List (Option Tmp)} {s vs : List AV} {x : Operand} {y : AX} (hx : ∀ u, x = .tmp u → u ∈ U) (hc : compX vt ds x = some y) : ev (maskS U ds s) (maskV U vt vs) y = ev s vs y := by
  cases x with
  | tmp u =>
    have hu := hx u rfl
    simp only [compX] at hc
    split at hc
    · rename_i i hi
      simp only [Option.some.injEq] at hc
      subst hc
      obtain ⟨h1, _⟩ := idxOp_spec hi
      simp only [ev, nth_eq, maskS, List.getElem?_mapIdx, h1, hu, if_true]
      cases s[i]? <;> rfl
    · split at hc <;> simp only [Option.some.injEq, reduceCtorEq] at hc
      rename_i j hj
      subst hc
      have h1 := idxIn_some hj
      simp only [ev, nth_eq, maskV, List.getElem?_mapIdx, h1, hu, if_true]
      cases vs[j]? <;> rfl
  | const v =>
    simp only [compX] at hc
    split at hc <;> simp only [Option.some.injEq, reduceCtorEq] at hc
    subst hc; rfl
  | func f => simp only [compX, Option.some.injEq] at hc; subst hc; rfl
  | global g => simp [compX] at hc
theorem mask_evalT {U : List Tmp} {t : Array Value} {x : Operand} (hx : ∀ u, x = .tmp u → u ∈ U) : evalT t x = evalT (maskT U t) x := by
  cases x with
  | tmp u => simp only [evalT]; rw [maskT_get, if_pos (hx u rfl)]
  | _ => rfl
end

/-! ### What a read reads -/
def AV.top : AV → Option Nat
  | .ptr o _ _ => some o
  | .slc o _ _ _ _ _ _ => some o
  | .map o => some o
  | _ => none
theorem VR.top {ρ : Gh} {v : AV} {v' : Value} (h : VR ρ v v') {o : Nat} (ho : v.top = some o) : ∃ g l, ρ o g = some l := by
  cases h <;> simp only [AV.top, Option.some.injEq, reduceCtorEq] at ho
  all_goals (subst ho; exact ⟨_, _, by assumption⟩)
theorem read_same {m m2 : Mem} {o : Nat} (h : m2.get o = m.get o) (g off n : Nat) : m2.read o g off n = m.read o g off n := by
  unfold Mem.read; rw [h]
theorem readOp_local {T : Tys} {s vs : List AV} {a : AOp} {m : Mem} {v : AV} (h : readOp T s vs a m = some v) :
    (∀ m2, readOp T s vs a m2 = some v) ∨ ∃ y ∈ a.args, ∃ o x, (ev s vs y).top = some o ∧ m.get o = some x ∧ ∀ m2 : Mem, m2.get o = some x → readOp T s vs a m2 = some v := by
  have rd : ∀ {o g off n : Nat} {cs : List AV}, m.read o g off n = some cs → ∃ x, m.get o = some x := by
    intro o g off n cs hr
    unfold Mem.read at hr
    split at hr
    · rename_i r hg; exact ⟨_, hg⟩
    · simp at hr
  cases a <;> simp only [readOp, reduceCtorEq] at h
  case load agg size x =>
    unfold loadA at h
    split at h
    · rename_i o g off he
      split at h <;> try simp only [reduceCtorEq] at h
      rename_i cs hcs
      obtain ⟨q, hq⟩ := rd hcs
      refine .inr ⟨x, by simp [AOp.args], o, q, by rw [he]; rfl, hq, fun m2 h2 => ?_⟩
      simp only [readOp, loadA, he]
      rw [read_same (h2.trans hq.symm), hcs]
      exact h
    · simp at h
  case lenM x =>
    split at h
    · rename_i he
      exact .inl fun m2 => by simp only [readOp, he]; exact h
    · rename_i o he
      split at h <;> simp only [Option.some.injEq, reduceCtorEq] at h
      rename_i es c hg
      exact .inr ⟨x, by simp [AOp.args], o, _, by rw [he]; rfl, hg, fun m2 h2 => by simp only [readOp, he, h2, h]⟩
    · simp at h
  case lookup kt ok zero x k =>
    cases hk : keyFits T kt (ev s vs k) <;> simp only [hk, cond_true, cond_false, reduceCtorEq] at h
    split at h
    · rename_i he
      exact .inl fun m2 => by simp only [readOp, hk, cond_true, he]; exact h
    · rename_i o he
      split at h <;> try simp only [reduceCtorEq] at h
      rename_i es c hg
      exact .inr ⟨x, by simp [AOp.args], o, _, by rw [he]; rfl, hg, fun m2 h2 => by simp only [readOp, hk, cond_true, he, h2]; exact h⟩
    · simp at h
  case b2s x =>
    split at h
    · rename_i he
      exact .inl fun m2 => by simp only [readOp, he]; exact h
    · rename_i o g off alt len cap he
      split at h <;> try simp only [reduceCtorEq] at h
      rename_i cs hcs
      obtain ⟨q, hq⟩ := rd hcs
      refine .inr ⟨x, by simp [AOp.args], o, q, by rw [he]; rfl, hq, fun m2 h2 => ?_⟩
      simp only [readOp, he]
      rw [read_same (h2.trans hq.symm), hcs]
      exact h
    · simp at h
end AM

/- Regions that draw their order: facts of the row of states. -/
namespace AM
open Go

structure RunC (P : Program) (T : Tys) (rec : Rec) (rd : Option Nat) (vt : List Tmp) (nt : Nat) (ops : Array Oper) (l : List AOper) (ancs : List Nat) (plan : Plan) (x : St) (lim : Nat) (skip : Nat → Bool) (st : Nat → St) : Prop where
  hT : TysOK P T
  hrec : RecOK P T rec
  hmono : RecMono rec
  R : Reg T vt nt ops l ancs plan
  tr : Trace T rec rd l ancs plan x lim skip st
  xs : x.1 = []
  limskip : lim < l.length → skip lim = true
  lim : lim ≤ l.length
  nodup : vt.Nodup
  hv : ∀ j u, vt[j]? = some u → j < x.2.1.vars.length
def nxAt (st : Nat → St) (i : Nat) : Nat := (st i).2.2.next
def valAt (st : Nat → St) (i : Nat) : AV := nth (st (i + 1)).1 0
structure IsAl (l : List AOper) (skip : Nat → Bool) (st : Nat → St) (a : Nat) : Prop where
  go : ∃ o, l[a]? = some o ∧ skip a = false ∧ wants (st a).1 o = true ∧ cls o.op = .alloc
theorem opRun_vars {T : Tys} {rec : Rec} {rd : Option Nat} {s : List AV} {a : AOp} {fr fr1 : Fr} {m m1 : Mem} {r : OpR} (h : opRun T rec rd s a fr m = some (r, fr1, m1)) : fr1.vars = fr.vars :=
  (opRun_congr (s' := s) (vs' := fr.vars) (fun _ _ => rfl) h).2
theorem nth_upd (vs : List AV) (j k : Nat) (v : AV) : nth (upd vs j v) k = if j = k ∧ j < vs.length then v else nth vs k := by
  rw [nth_eq, nth_eq, upd_eq, List.getElem?_set]
  by_cases h : j = k
  · subst h
    by_cases h2 : j < vs.length
    · simp [h2]
    · simp [h2]
  · simp [h]
theorem idxIn_eq {vt : List Tmp} (hn : vt.Nodup) {j : Nat} {u : Tmp} (h : vt[j]? = some u) : idxIn u vt = some j := by
  cases hi : idxIn u vt with
  | none => exact absurd (List.mem_of_getElem? h) (idxIn_none hi)
  | some i =>
    have h4 := idxIn_some hi
    obtain ⟨l1, e1⟩ := List.getElem?_eq_some_iff.1 h4
    obtain ⟨l2, e2⟩ := List.getElem?_eq_some_iff.1 h
    have h10 := List.pairwise_iff_getElem.1 hn
    rcases Nat.lt_trichotomy i j with h11 | h11 | h11
    · exact absurd (e1.trans e2.symm) (h10 _ _ l1 l2 h11)
    · rw [h11]
    · exact absurd (e2.trans e1.symm) (h10 _ _ l2 l1 h11)
theorem dsAt_succ {ops : List Oper} {i : Nat} {o : Oper} (h : ops[i]? = some o) : dsAt ops (i + 1) = o.dst :: dsAt ops i := by
  unfold dsAt
  rw [List.take_add_one, h]
  simp
namespace RunC
section
variable {P : Program} {T : Tys} {rec : Rec} {rd : Option Nat} {vt : List Tmp} {nt : Nat} {ops : Array Oper} {l : List AOper} {ancs : List Nat} {plan : Plan} {x : St} {lim : Nat} {skip : Nat → Bool} {st : Nat → St}
variable (C : RunC P T rec rd vt nt ops l ancs plan x lim skip st)
include C
theorem at_ {i : Nat} (h : i < l.length) : ∃ o, l[i]? = some o ∧ StepR T rec rd skip i o (st i) (st (i + 1)) := ⟨_, List.getElem?_eq_getElem h, C.tr.step _ _ (List.getElem?_eq_getElem h)⟩
theorem nx_succ {i : Nat} (h : i < l.length) : nxAt st i ≤ nxAt st (i + 1) := by
  obtain ⟨o, _, hs⟩ := C.at_ h
  unfold nxAt
  cases hs with
  | skip _ e => rw [e]; exact Nat.le_refl _
  | out _ _ e => rw [e]; exact Nat.le_refl _
  | val _ _ v fr m k e => rw [e]; exact opRun_next C.hmono k
theorem nx_mono {i k : Nat} (hik : i ≤ k) (hk : k ≤ l.length) : nxAt st i ≤ nxAt st k := by
  induction k with
  | zero => rw [Nat.le_zero.1 hik]; exact Nat.le_refl _
  | succ k ih =>
    by_cases h : i = k + 1
    · subst h; exact Nat.le_refl _
    · exact Nat.le_trans (ih (by omega) (by omega)) (C.nx_succ (by omega))
theorem drop_ {n k : Nat} (hn : n ≤ l.length) (hk : k ≤ n) : (st n).1.drop k = (st (n - k)).1 :=
  steps_drop (fun i o _ ho => C.tr.step i o ho) hn k hk
theorem len {n : Nat} (hn : n ≤ l.length) : (st n).1.length = n := by
  induction n with
  | zero => rw [C.tr.zero, C.xs]; rfl
  | succ n ih =>
    obtain ⟨o, _, hs⟩ := C.at_ (i := n) (by omega)
    have := congrArg List.length hs.cons
    rw [this]
    simp [ih (by omega)]
theorem stack {n k : Nat} (hn : n ≤ l.length) (hk : k < n) : nth (st n).1 k = valAt st (n - 1 - k) := by
  rw [nth_drop, C.drop_ hn (by omega), valAt, show n - 1 - k + 1 = n - k from by omega]
theorem vlen {n : Nat} (hn : n ≤ l.length) : (st n).2.1.vars.length = x.2.1.vars.length := by
  induction n with
  | zero => rw [C.tr.zero]
  | succ n ih =>
    obtain ⟨o, _, hs⟩ := C.at_ (i := n) (by omega)
    have ih := ih (by omega)
    have hput : ∀ (fr : Fr) (v : AV), (fr.put o.dst v).vars.length = fr.vars.length := fun fr v => by
      cases h : o.dst <;> simp [Fr.put, putS, upd_eq]
    cases hs with
    | skip _ e => rw [e]; exact ih
    | out _ _ e => rw [e]; exact (hput _ _).trans ih
    | val _ _ v fr m k e => rw [e]; exact (hput _ _).trans (by rw [opRun_vars k]; exact ih)
theorem alStep {a : Nat} (h : IsAl l skip st a) : ∃ o x f, l[a]? = some o ∧ allocP (st a).1 (st a).2.1.vars o.op = some (x, f) ∧ valAt st a = f (nxAt st a) ∧ (st (a + 1)).2.2 = (st a).2.2.push x ∧ cls o.op = .alloc := by
  obtain ⟨o, ho, h1, h2, h3⟩ := h.go
  cases C.tr.step _ _ ho with
  | skip h _ => rw [h1] at h; simp at h
  | out _ hw _ => rw [h2] at hw; simp at hw
  | val _ _ v fr m k e =>
    rw [opRun_alloc h3, allocOp_eq] at k
    cases hp : allocP (st a).1 (st a).2.1.vars o.op with
    | none => rw [hp] at k; simp at k
    | some p =>
      obtain ⟨y, f⟩ := p
      rw [hp] at k
      simp only [Option.map_some, Option.some.injEq, Prod.mk.injEq, OpR.val.injEq] at k
      obtain ⟨rfl, rfl, rfl⟩ := k
      exact ⟨o, y, f, ho, hp, by unfold valAt; rw [e]; rfl, by rw [e], h3⟩
theorem alNext {a : Nat} (h : IsAl l skip st a) : nxAt st (a + 1) = nxAt st a + 1 := by
  obtain ⟨_, _, _, _, _, _, h1, _⟩ := C.alStep h
  unfold nxAt; rw [h1]; rfl
theorem alLt {a : Nat} (h : IsAl l skip st a) : a < l.length := by
  have _ := C.lim
  obtain ⟨o, ho, _⟩ := h.go
  exact (List.getElem?_eq_some_iff.1 ho).1
/-- What has no effect. -/
theorem quiet {a : Nat} {o : AOper} (ho : l[a]? = some o) (he : cls o.op ≠ .eff) :
    ((IsAl l skip st a) ∨ (st (a + 1)).2.2 = (st a).2.2) ∧ (st (a + 1)).2.1.defers = (st a).2.1.defers ∧ (st (a + 1)).2.1.pan = (st a).2.1.pan ∧ (st (a + 1)).2.1.did = (st a).2.1.did := by
  cases C.tr.step _ _ ho with
  | skip _ e => rw [e]; exact ⟨.inr rfl, rfl, rfl, rfl⟩
  | out _ _ e => rw [e]; exact ⟨.inr rfl, rfl, rfl, rfl⟩
  | val hs hw v fr m k e =>
    cases hc : cls o.op with
    | eff => exact absurd hc he
    | pure =>
      rw [opRun_pure hc] at k
      cases hp : pureOp T (st a).1 (st a).2.1.vars o.op <;> rw [hp] at k <;> simp at k
      obtain ⟨rfl, rfl, rfl⟩ := k
      rw [e]; exact ⟨.inr rfl, rfl, rfl, rfl⟩
    | read =>
      rw [opRun_read hc] at k
      cases hp : readOp T (st a).1 (st a).2.1.vars o.op (st a).2.2 <;> rw [hp] at k <;> simp at k
      obtain ⟨rfl, rfl, rfl⟩ := k
      rw [e]; exact ⟨.inr rfl, rfl, rfl, rfl⟩
    | alloc =>
      refine ⟨.inl ⟨⟨o, ho, hs, hw, hc⟩⟩, ?_⟩
      rw [opRun_alloc hc] at k
      cases hp : allocOp (st a).1 (st a).2.1.vars o.op (st a).2.2 <;> rw [hp] at k <;> simp at k
      obtain ⟨rfl, rfl, rfl⟩ := k
      rw [e]; exact ⟨rfl, rfl, rfl⟩
/-- No effect stands between. -/
def calm (l : List AOper) (i k : Nat) : Prop := ∀ a o, i ≤ a → a < k → l[a]? = some o → cls o.op ≠ .eff
omit C in
theorem calm.mono {i k i' k' : Nat} (h : calm l i k) (hi : i ≤ i') (hk : k' ≤ k) : calm l i' k' := fun a o h1 h2 => h a o (by omega) (by omega)
theorem frames {i k : Nat} (hik : i ≤ k) (hk : k ≤ l.length) (hc : calm l i k) : (st k).2.1.defers = (st i).2.1.defers ∧ (st k).2.1.pan = (st i).2.1.pan ∧ (st k).2.1.did = (st i).2.1.did := by
  induction k with
  | zero => rw [Nat.le_zero.1 hik]; exact ⟨rfl, rfl, rfl⟩
  | succ k ih =>
    by_cases h : i = k + 1
    · subst h; exact ⟨rfl, rfl, rfl⟩
    · obtain ⟨h1, h2, h3⟩ := ih (by omega) (by omega) (hc.mono (Nat.le_refl _) (by omega))
      obtain ⟨o, ho, _⟩ := C.at_ (i := k) (by omega)
      obtain ⟨_, h4, h5, h6⟩ := C.quiet ho (hc k o (by omega) (by omega) ho)
      exact ⟨h4.trans h1, h5.trans h2, h6.trans h3⟩
theorem getKeep {i k : Nat} (hik : i ≤ k) (hk : k ≤ l.length) (hc : calm l i k) {o : Nat} (ho : o < nxAt st i) : (st k).2.2.get o = (st i).2.2.get o := by
  induction k with
  | zero => rw [Nat.le_zero.1 hik]
  | succ k ih =>
    by_cases h : i = k + 1
    · subst h; rfl
    · have ih := ih (by omega) (by omega) (hc.mono (Nat.le_refl _) (by omega))
      obtain ⟨q, hq, _⟩ := C.at_ (i := k) (by omega)
      obtain ⟨h1, _⟩ := C.quiet hq (hc k q (by omega) (by omega) hq)
      rcases h1 with h1 | h1
      · obtain ⟨_, y, _, _, _, _, h2, _⟩ := C.alStep h1
        rw [h2, Mem.get_push, if_neg, ih]
        have := C.nx_mono (i := i) (k := k) (by omega) (by omega)
        unfold nxAt at this ho
        omega
      · rw [h1, ih]
theorem varsLast {i : Nat} (hi : i ≤ l.length) : ∀ j u, vt[j]? = some u → (∀ k q, k < i → ops[k]? = some q → q.dst = some u → skip k = false) →
    nth (st i).2.1.vars j = match idxOp u (dsAt ops.toList i) with | some idx => nth (st i).1 idx | none => nth x.2.1.vars j := by
  induction i with
  | zero => intro j u hj _; simp [dsAt, idxOp, C.tr.zero]
  | succ i ih =>
    intro j u hj hsk
    have ih := ih (by omega) j u hj fun k q hk => hsk k q (by omega)
    obtain ⟨o, ho⟩ := C.R.get (i := i) (by omega)
    obtain ⟨a, g, hl, _⟩ := C.R.op i o ho
    rw [dsAt_succ (by simpa using ho)]
    have hs := C.tr.step _ _ hl
    have hcons := hs.cons
    -- what the step does to the variable
    have hset : ∀ (fr : Fr) (v : AV), fr.vars.length = x.2.1.vars.length → nth (fr.put (dstOf vt o.dst) v).vars j = if o.dst = some u then v else nth fr.vars j := by
      intro fr v hfl
      cases hd : o.dst with
      | none => simp [Fr.put, dstOf, putS]
      | some d =>
        by_cases hdu : d = u
        · subst hdu
          simp only [Fr.put, dstOf, idxIn_eq C.nodup hj, putS, nth_upd, if_true]
          rw [if_pos ⟨trivial, by rw [hfl]; exact C.hv j d hj⟩]
        · rw [if_neg (by simpa using hdu)]
          cases hx : idxIn d vt with
          | none => simp [Fr.put, dstOf, putS, hx]
          | some j' =>
            have : j' ≠ j := by
              rintro rfl
              have := idxIn_some hx
              rw [hj] at this
              simp at this
              exact hdu this.symm
            simp only [Fr.put, dstOf, hx, putS, nth_upd]
            rw [if_neg fun h => this h.1]
    have hfl : (st i).2.1.vars.length = x.2.1.vars.length := C.vlen (by omega)
    by_cases hd : o.dst = some u
    · have hidx : idxOp u (o.dst :: dsAt ops.toList i) = some 0 := by rw [hd]; simp [idxOp]
      rw [hidx]
      have hns := hsk i o (by omega) ho hd
      cases hs with
      | skip h _ => rw [hns] at h; simp at h
      | out _ _ e => rw [e]; simp only; rw [hset _ _ hfl, if_pos hd]; rfl
      | val _ _ v fr m k e => rw [e]; simp only; rw [hset _ _ (by rw [opRun_vars k]; exact hfl), if_pos hd]; rfl
    · have hidx : (match idxOp u (o.dst :: dsAt ops.toList i) with | some idx => nth (st (i + 1)).1 idx | none => nth x.2.1.vars j) = match idxOp u (dsAt ops.toList i) with | some idx => nth (st i).1 idx | none => nth x.2.1.vars j := by
        rw [hcons]
        cases hdd : o.dst with
        | none => simp only [idxOp]; cases idxOp u (dsAt ops.toList i) <;> rfl
        | some d =>
          have : Nat.beq d u = false := by
            rw [nbeq]; simp; rintro rfl; exact hd hdd
          simp only [idxOp, this, cond_false]
          cases idxOp u (dsAt ops.toList i) <;> rfl
      rw [hidx, ← ih]
      cases hs with
      | skip _ e => rw [e]
      | out _ _ e => rw [e]; simp only; rw [hset _ _ hfl, if_neg hd]
      | val _ _ v fr m k e => rw [e]; simp only; rw [hset _ _ (by rw [opRun_vars k]; exact hfl), if_neg hd, opRun_vars k]
end
end RunC
end AM
