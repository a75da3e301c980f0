/- What the functions of the law answer: part 3. -/
import Derived.Test.YthobhcbaddcbgaaDoorP2
/- The shapes of a function: the specification's sweeps. -/
namespace Go.KE
set_option maxRecDepth 100000

abbrev kSh : List Kd := [.int .i64, .sl, .sl]
structure RShs (R : Hp) (ts : List (Int × Sl × Sl)) (v : Nat → Sh) (n : Nat) : Prop where
  len : ts.length = n
  at_ : ∀ i t, ts[i]? = some t → RSh R t (v i)
theorem RShs.mono {R R' : Hp} {ts : List (Int × Sl × Sl)} {v : Nat → Sh} {n : Nat} (h : RShs R ts v n) (l : R.le R') : RShs R' ts v n := ⟨h.len, fun i t e => (h.at_ i t e).mono l⟩
theorem RShs.get {R : Hp} {ts : List (Int × Sl × Sl)} {v : Nat → Sh} {n : Nat} (h : RShs R ts v n) {i : Nat} (hi : i < n) : ∃ t, ts[i]? = some t ∧ RSh R t (v i) := by
  have := h.len
  exact ⟨_, List.getElem?_eq_getElem (by omega), h.at_ i _ (List.getElem?_eq_getElem (by omega))⟩
theorem RShs.set {R : Hp} {ts : List (Int × Sl × Sl)} {v : Nat → Sh} {n : Nat} (h : RShs R ts v n) {t : Int × Sl × Sl} {a : Sh} (j : Nat) (ht : RSh R t a) : RShs R (ts.set j t) (upd v j a) n := ⟨by rw [List.length_set]; exact h.len, fun i t' e => by
  rw [List.getElem?_set] at e
  unfold upd
  by_cases hij : j = i
  · rw [if_pos hij] at e
    split at e
    · cases e; rw [if_pos hij.symm]; exact ht
    · cases e
  · rw [if_neg hij] at e
    rw [if_neg (fun x => hij x.symm)]; exact h.at_ i t' e⟩
structure Flow.St {S n : Nat} (F : Flow S n) (v : Nat → Sh) : Prop where
  good : GoodV S n v
  low : F.Low v
  fst : F.first.le (v 0)
def Flow.At {S n : Nat} (F : Flow S n) (v : Nat → Sh) (i : Nat) : Prop := ∀ j ∈ F.goes i, j < n → (F.out i (v i)).le (v j)
theorem upd_at (v : Nat → Sh) (j : Nat) (x : Sh) : upd v j x j = x := by unfold upd; rw [if_pos rfl]
theorem upd_ne (v : Nat → Sh) {j i : Nat} (x : Sh) (h : i ≠ j) : upd v j x i = v i := by unfold upd; rw [if_neg h]
section
variable {S n : Nat} {F : Flow S n} {v : Nat → Sh} (s : F.St v) {i j : Nat} (hi : i < n) (hj : j ∈ F.goes i) (hjn : j < n) {a : Sh} (ha : a.Good S)
theorem Flow.St.goodJoin (s : F.St v) (hi : i < n) (hjn : j < n) (ha : a.Good S) : ((v j).join (F.out i a)).Good S := (s.good j hjn).join (F.good i a hi ha)
theorem Flow.St.upd (s : F.St v) (hi : i < n) (hj : j ∈ F.goes i) (hjn : j < n) (ha : a.Good S) (hav : ∀ u, GoodV S n u → F.Cl u → a.le (u i)) : F.St (upd v j ((v j).join (F.out i a))) :=
  ⟨s.good.upd (s.goodJoin hi hjn ha), Flow.Low.upd s.good s.low hi hj hjn ha hav, by
    by_cases e : (0 : Nat) = j
    · subst e; rw [upd_at]; exact Sh.le_trans s.fst (Sh.join_left (s.good _ hjn) (F.good i a hi ha))
    · rw [upd_ne _ _ e]; exact s.fst⟩
theorem Flow.St.grow (s : F.St v) (hi : i < n) (hjn : j < n) (ha : a.Good S) (k : Nat) : (v k).le (Go.KE.upd v j ((v j).join (F.out i a)) k) := by
  by_cases e : k = j
  · subst e; rw [upd_at]; exact Sh.join_left (s.good _ hjn) (F.good i a hi ha)
  · rw [upd_ne _ _ e]; exact Sh.le_refl _
theorem Flow.St.hsum_lt (s : F.St v) (hi : i < n) (hjn : j < n) (ha : a.Good S) (hne : (v j).join (F.out i a) ≠ v j) : hsum S (Go.KE.upd v j ((v j).join (F.out i a))) n < hsum S v n := by
  have h1 := hsum_upd (S := S) (v := v) (x := (v j).join (F.out i a)) hjn
  have h2 := Sh.ht_lt (s.good j hjn) (s.goodJoin hi hjn ha) (Sh.join_left (s.good _ hjn) (F.good i a hi ha)) hne
  omega
end
theorem Flow.St.cl {S n : Nat} {F : Flow S n} {v : Nat → Sh} (s : F.St v) (h : ∀ i, i < n → F.At v i) : F.Cl v := ⟨s.fst, h⟩
/-- The targets done so far. -/
def Part (v : Nat → Sh) (gs : List Int) (o : Sh) (n k : Nat) : Prop := ∀ j, j < k → (gs.getD j 0).toNat < n → o.le (v (gs.getD j 0).toNat)
theorem part_all {c : List MFn} {f : MFn} {v : Nat → Sh} {i : Nat} (hi : i < f.ins.length) {o : Sh} (h : Part v (mGoes f.ins[i] i) o f.ins.length (mGoes f.ins[i] i).length) : ∀ j ∈ insGoes f i, j < f.ins.length → o.le (v j) := fun j hj hjn => by
  unfold insGoes at hj
  rw [List.getElem?_eq_getElem hi] at hj
  simp only [List.mem_map] at hj
  obtain ⟨g, hg, rfl⟩ := hj
  obtain ⟨k, hk, rfl⟩ := List.mem_iff_getElem.1 hg
  have := h k hk
  rw [getD_at hk] at this
  exact this hjn
theorem goes_mem {f : MFn} {i k : Nat} (hi : i < f.ins.length) (hk : k < (mGoes f.ins[i] i).length) : (mGoes f.ins[i] i)[k].toNat ∈ insGoes f i := by
  unfold insGoes
  rw [List.getElem?_eq_getElem hi]
  exact List.mem_map.2 ⟨_, List.getElem_mem hk, rfl⟩
theorem goes_rng {c : List MFn} {f : MFn} (hc : CodeOk c) (hf : f ∈ c) {i : Nat} (hi : i < f.ins.length) : ∀ y ∈ mGoes f.ins[i] i, 0 ≤ y ∧ y ≤ (f.ins.length : Int) := fun y hy => by
  have hio := hc.ins f hf _ (List.getElem_mem hi)
  unfold mGoes at hy
  split at hy
  · cases hy
  · split at hy
    · rename_i hh
      simp at hy; subst hy
      exact (insA hio (by omega)).2.2.2.2.2.2.1 (.inl hh)
    · split at hy
      · rename_i hh
        simp at hy
        rcases hy with hy | hy
        · subst hy; exact (insA hio (by omega)).2.2.2.2.2.2.1 (.inr hh)
        · omega
      · simp at hy; omega
theorem loop_any {α : Type} {R : Hp} (x0 : α) (Q : Nat → α → Hp → Prop) {B : (Nat → α → Hp → Prop) → Nat → α → Hp → Prop} (h0 : ∃ n, Q n x0 R) (h : ∀ n x R', R.le R' → Q n x R' → B Q n x R') :
    ∃ Inv : Nat → α → Hp → Prop, (∃ n, Inv n x0 R) ∧ ∀ n x R', R.le R' → Inv n x R' → B Inv n x R' := ⟨Q, h0, h⟩
/-- The shapes, as they come out. -/
def Shaped {c : List MFn} (hc : CodeOk c) {f : MFn} (hf : f ∈ c) (v : Nat → Sh) : Prop := (flow hc hf).St v ∧ (flow hc hf).Cl v
theorem none_low {c : List MFn} (hc : CodeOk c) {f : MFn} (hf : f ∈ c) : (flow hc hf).St (upd (fun _ => none) 0 (mFirst f)) := by
  have hn := (hc.head f hf).2.2.2.2
  refine ⟨fun i hi => ?_, fun u gu cu i hi => ?_, by rw [upd_at]; exact Sh.le_refl _⟩
  · by_cases e : i = 0
    · subst e; rw [upd_at]; exact mFirst_good hc hf
    · rw [upd_ne _ _ e]; trivial
  · by_cases e : i = 0
    · subst e; rw [upd_at]; exact cu.1
    · rw [upd_ne _ _ e]; trivial
theorem first_shs {R : Hp} {s : Sl} {f : MFn} (hs : RSlice R s kI (f.params ++ List.replicate (f.slots.toNat - f.params.length) 0)) (sl0 : Sl) (h0 : RSlice R sl0 kI []) : RShs R (List.set (List.replicate f.ins.length ((0, ⟨none, 0, 0⟩, ⟨none, 0, 0⟩) : Int × Sl × Sl)) 0 (1, s, sl0)) (upd (fun _ => none) 0 (mFirst f)) f.ins.length :=
  RShs.set ⟨List.length_replicate, fun i t e => by
    rw [List.getElem?_replicate] at e
    split at e <;> cases e
    rfl⟩ 0 ⟨rfl, hs, h0⟩
theorem c_spec_l7Shapes {c : List MFn} {cs : Sl} {fi : Nat} {R : Hp} {K : Ending → Hp → Prop} {f : MFn} (hc : CodeOk c) (hf : f ∈ c) (hcs : RCode R cs c) (hfi : c[fi]? = some f)
    (h : ∀ (v : Nat → Sh) (s : Sl) (ts : List (Int × Sl × Sl)) R', R.le R' → Shaped hc hf v → RSlice R' s kSh ts → RShs R' ts v f.ins.length → K (.returned s.val) R') :
    CallsR P0 F_spec_l7Shapes #[.agg #[cs.val], .int .i64 fi] R K := go_spec_l7Shapes (by
  unfold vc_spec_l7Shapes
  have rr := Hp.le.refl R
  obtain ⟨t, e1, hfn⟩ := hcs.at_ fi f hfi
  refine ⟨t, e1, ?_⟩
  obtain ⟨nm, ps, res, slots, is⟩ := t
  have hln := hc.head f hf
  have ei : (is.len : Int) = (f.ins.length : Int) := hfn.ins.len
  have esl : slots = f.slots := hfn.sl
  subst esl
  dsimp only
  rw [ei]
  refine ⟨by omega, Int.le_refl _, by omega, f.params, hfn.ps, by simp; omega, ?_⟩
  refine loop_upX (f.slots.toNat - f.params.length) 0 _ (fun k x _ => True) (fun k x => x = (1, f.params ++ List.replicate k 0, ⟨none, 0, 0⟩)) (by simp [List.replicate]) (by omega) trivial fun Inv k x R1 l1 hk hx _ hn => ?_
  subst hx
  dsimp only
  have el : ((f.params ++ List.replicate k 0 : List Int).length : Int) = (f.params.length : Int) + k := by simp
  refine ⟨fun b1 => ⟨?_, ?_⟩, fun b1 => ?_⟩
  · simp; omega
  · rw [dec_t, el] at b1
    refine hn _ R1 (by omega) ?_ trivial
    show ((1 : Int), f.params ++ List.replicate k 0 ++ [0], (⟨none, 0, 0⟩ : Sl)) = _
    rw [List.append_assoc, ← List.replicate_succ']
  · rw [dec_f, el] at b1
    have ek : k = f.slots.toNat - f.params.length := by omega
    subst ek
    refine ⟨by omega, by simp; omega, fun s R2 f2 => ?_⟩
    have hs2 := f2.sl
    have l2 := l1.trans f2.le
    refine ⟨(0, ⟨none, 0, 0⟩, ⟨none, 0, 0⟩), by rw [Int.toNat_natCast, List.getElem?_replicate, if_pos (by omega)]; rfl, ?_⟩
    have shs0 := first_shs hs2 ⟨none, 0, 0⟩ (nil_slice R2 kI)
    have st0 := none_low hc hf
    let F := flow hc hf
    refine loop_any _ (fun n x R' => ∃ v, F.St v ∧ RShs R' x.1 v f.ins.length ∧ n = hsum f.slots.toNat v f.ins.length + (if x.2 then 1 else 0) ∧ (x.2 = false → ∀ i, i < f.ins.length → F.At v i)) ⟨_, _, st0, ?_, rfl, fun x => by cases x⟩ fun n x R3 l3 hinv => ?_
    · rw [Int.toNat_natCast]; exact shs0
    obtain ⟨v, sv, shv, hn0, hcl⟩ := hinv
    obtain ⟨ts, again⟩ := x
    dsimp only at *
    refine ⟨fun b2 => ?_, fun b2 s1 R4 f4 => ?_⟩
    · subst b2
      rw [if_pos rfl] at hn0
      refine loop_upX f.ins.length 0 _ (fun k x R' => ∃ v', F.St v' ∧ RShs R' x.1 v' f.ins.length ∧ hsum f.slots.toNat v' f.ins.length ≤ hsum f.slots.toNat v f.ins.length ∧ (x.2.1 = true → hsum f.slots.toNat v' f.ins.length < hsum f.slots.toNat v f.ins.length) ∧ (x.2.1 = false → ∀ i, i < k → F.At v' i))
        (fun k x => x.2.2 = (k : Int)) rfl (by omega) ⟨v, sv, shv, Nat.le_refl _, fun x => (by cases x), fun _ i hi => by omega⟩ fun Inv2 k x R4 l4 hk2 hx hq hn2 => ?_
      obtain ⟨ts2, ag2, ik⟩ := x
      obtain ⟨v', sv', shv', hle, hlt, hat⟩ := hq
      dsimp only at *
      subst hx
      rw [shv'.len]
      refine ⟨fun b3 => ?_, fun b3 => ?_⟩
      · have b3 : k < f.ins.length := by rw [dec_t] at b3; omega
        obtain ⟨y1, g1, r1⟩ := shv'.get b3
        rw [Int.toNat_natCast]
        refine ⟨by omega, by omega, y1, g1, fun b4 => ?_, fun b4 => ⟨by omega, by omega, y1, g1, ?_⟩⟩
        · rw [beq_iff_eq] at b4
          have hv : v' k = none := by
            cases e : v' k with
            | none => rfl
            | some z =>
              rw [e] at r1
              cases z with
              | none => have : y1.1 = 2 := r1; omega
              | some z => have : y1.1 = 1 := r1.1; omega
          refine hn2 _ R4 b3 (wrap_up (by omega)) ⟨v', sv', shv', hle, hlt, fun x i hi => ?_⟩
          rcases Nat.lt_or_ge i k with z | z
          · exact hat x i z
          · have : i = k := by omega
            subst this
            intro j hj hjn
            rw [hv]; trivial
        · rw [beq_eq_false_iff_ne] at b4
          have hv : v' k ≠ none := fun e => by rw [e] at r1; exact b4 r1
          have l04 := l2.trans (l3.trans l4)
          generalize ha : v' k = a at *
          have ga : a.Good f.slots.toNat := ha ▸ sv'.good k b3
          have hav : ∀ u, GoodV f.slots.toNat f.ins.length u → F.Cl u → a.le (u k) := fun u gu cu => ha ▸ sv'.low u gu cu k b3
          refine c_spec_l7Behind hc hf b3 (hcs.mono l04) (hfn.mono l04) hv ga r1 fun o R5 l5 ho => ⟨o, rfl, _, hfn.ins.get (l04.trans l5) b3, ?_⟩
          refine c_spec_l7Goes (by omega) fun sg R6 l6 hsg => ⟨sg, rfl, ?_⟩
          have hsg : RSlice R6 sg kI (mGoes f.ins[k] k) := hsg
          have g2 := mGoes_len f.ins[k] k
          have grng := goes_rng hc hf b3
          have l46 := l5.trans l6
          rw [hsg.len]
          refine loop_upX (mGoes f.ins[k] k).length 0 _ (fun m x R' => ∃ w, F.St w ∧ RShs R' x.1 w f.ins.length ∧ hsum f.slots.toNat w f.ins.length ≤ hsum f.slots.toNat v f.ins.length ∧ (x.2.1 = true → hsum f.slots.toNat w f.ins.length < hsum f.slots.toNat v f.ins.length) ∧ (x.2.1 = false → (∀ i, i < k → F.At w i) ∧ w k = a ∧ Part w (mGoes f.ins[k] k) (mOut c f k a) f.ins.length m))
            (fun m x => x.2.2 = (m : Int)) rfl (by omega) ⟨v', sv', shv'.mono l46, hle, hlt, fun x => ⟨hat x, ha, fun j hj => by omega⟩⟩ fun Inv3 m x R7 l7 hm hx hq hn3 => ?_
          obtain ⟨ts3, ag3, im⟩ := x
          obtain ⟨w, sw, shw, hlew, hltw, hatw⟩ := hq
          dsimp only at *
          subst hx
          refine ⟨fun b5 => ?_, fun b5 => ?_⟩
          · have b5' : m < (mGoes f.ins[k] k).length := by rw [dec_t] at b5; omega
            have gm := hsg.get l7 b5'
            have gr := grng _ (List.getElem_mem b5')
            have gmem := goes_mem b3 b5'
            have gD : (mGoes f.ins[k] k).getD m 0 = (mGoes f.ins[k] k)[m] := getD_at b5'
            refine ⟨_, gm, ?_⟩
            rw [shw.len]
            generalize (mGoes f.ins[k] k)[m] = q at *
            refine ⟨fun b6 => ⟨q, gm, gr.1, ?_, ?_⟩, fun b6 => ?_⟩
            · rw [dec_t] at b6; exact b6
            · rw [dec_t] at b6
              have hqn : q.toNat < f.ins.length := by omega
              obtain ⟨y6, g6, r6⟩ := shw.get hqn
              refine ⟨y6, g6, c_spec_l7Join (S := f.slots.toNat) (by omega) (sw.good _ hqn) (F.good k a b3 ga) r6 (ho.mono (l6.trans l7)) fun x6 R8 l8 r8 => ⟨x6, _, rfl, q, gm.mono l8, gr.1, by omega, y6, g6, ?_⟩⟩
              have sw' := sw.upd b3 gmem hqn ga hav
              have shw' := (shw.mono l8).set q.toNat r8
              have hs_lt : (w q.toNat).join (F.out k a) ≠ w q.toNat → hsum f.slots.toNat (upd w q.toNat ((w q.toNat).join (F.out k a))) f.ins.length < hsum f.slots.toNat w f.ins.length := fun hne => sw.hsum_lt b3 hqn ga hne
              have hs_eq : (w q.toNat).join (F.out k a) = w q.toNat → upd w q.toNat ((w q.toNat).join (F.out k a)) = w := fun he => by rw [he]; exact upd_same w _
              have hs_le : hsum f.slots.toNat (upd w q.toNat ((w q.toNat).join (F.out k a))) f.ins.length ≤ hsum f.slots.toNat w f.ins.length := by
                by_cases hne : (w q.toNat).join (F.out k a) = w q.toNat
                · rw [hs_eq hne]; exact Nat.le_refl _
                · exact Nat.le_of_lt (hs_lt hne)
              refine ⟨fun b7 => ?_, fun b7 => ?_⟩
              · subst b7
                exact hn3 _ R8 b5' (wrap_up (by omega)) ⟨_, sw', shw', by omega, fun _ => by have := hltw rfl; omega, fun x => by cases x⟩
              · subst b7
                refine hn3 _ R8 b5' (wrap_up (by omega)) ⟨_, sw', shw', by omega, fun x => ?_, fun x => ?_⟩
                · have x : (w q.toNat).join (F.out k a) ≠ w q.toNat := of_decide_eq_true x
                  have := hs_lt x
                  omega
                · have xe : (w q.toNat).join (F.out k a) = w q.toNat := Decidable.not_not.1 (of_decide_eq_false x)
                  rw [hs_eq xe]
                  obtain ⟨p1, p2, p3⟩ := hatw rfl
                  refine ⟨p1, p2, fun j hj hjn => ?_⟩
                  rcases Nat.lt_or_ge j m with z | z
                  · exact p3 j z hjn
                  · have : j = m := by omega
                    subst this
                    have jr := Sh.join_right (sw.good _ hqn) (F.good k a b3 ga)
                    rw [xe] at jr
                    rw [gD]; exact jr
            · rw [dec_f] at b6
              refine hn3 _ R7 b5' (wrap_up (by omega)) ⟨w, sw, shw, hlew, hltw, fun x => ?_⟩
              obtain ⟨p1, p2, p3⟩ := hatw x
              refine ⟨p1, p2, fun j hj hjn => ?_⟩
              rcases Nat.lt_or_ge j m with z | z
              · exact p3 j z hjn
              · have : j = m := by omega
                subst this
                rw [gD] at hjn; omega
          · have b5 : m = (mGoes f.ins[k] k).length := by rw [dec_f] at b5; omega
            subst b5
            refine hn2 _ R7 b3 (wrap_up (by omega)) ⟨w, sw, shw, hlew, hltw, fun x i hi => ?_⟩
            obtain ⟨p1, p2, p3⟩ := hatw x
            rcases Nat.lt_or_ge i k with z | z
            · exact p1 i z
            · have : i = k := by omega
              subst this
              intro j hj hjn
              rw [p2]
              exact part_all (c := c) b3 p3 j hj hjn
      · have b3 : k = f.ins.length := by rw [dec_f] at b3; omega
        subst b3
        refine ⟨_, ?_, v', sv', shv', rfl, hat⟩
        cases ag2 with
        | true => have := hlt rfl; simp only [if_true]; omega
        | false => simp; omega
    · subst b2
      have l4 := l2.trans (l3.trans f4.le)
      exact h v s1 ts R4 l4 ⟨sv, sv.cl (hcl rfl)⟩ f4.sl (shv.mono f4.le))
end Go.KE

/- The shapes of a function: the program's list of places to look at. -/
namespace Go.KE
set_option maxRecDepth 100000

structure WkOk {S n : Nat} (F : Flow S n) (v : Nat → Sh) (ts : List (Int × Sl × Sl)) (wk : List Int) (on : List Bool) (R : Hp) : Prop where
  st : F.St v
  sh : RShs R ts v n
  onl : on.length = n
  wk_ : ∀ w ∈ wk, 0 ≤ w ∧ w.toNat < n ∧ v w.toNat ≠ none
  on_ : ∀ i : Nat, on[i]? = some true → (i : Int) ∈ wk
theorem WkOk.mono {S n : Nat} {F : Flow S n} {v : Nat → Sh} {ts : List (Int × Sl × Sl)} {wk : List Int} {on : List Bool} {R R' : Hp} (h : WkOk F v ts wk on R) (l : R.le R') : WkOk F v ts wk on R' := ⟨h.st, h.sh.mono l, h.onl, h.wk_, h.on_⟩
theorem Sh.le_ne {a b : Sh} (h : a.le b) (ha : a ≠ none) : b ≠ none := fun e => by
  subst e
  cases a with
  | none => exact ha rfl
  | some z => cases z <;> exact h
theorem At.grow {S n : Nat} {F : Flow S n} {v w : Nat → Sh} {i : Nat} (h : F.At v i) (e : w i = v i) (g : ∀ k, (v k).le (w k)) : F.At w i := fun j hj hjn => by
  rw [e]; exact Sh.le_trans (h j hj hjn) (g j)
theorem Part.grow {v w : Nat → Sh} {gs : List Int} {o : Sh} {n k : Nat} (h : Part v gs o n k) (g : ∀ k, (v k).le (w k)) : Part w gs o n k := fun j hj hjn => Sh.le_trans (h j hj hjn) (g _)
theorem goes_loop {c : List MFn} {f : MFn} {hc : CodeOk c} {hf : f ∈ c} {k M : Nat} {a : Sh} {o : Int × Sl × Sl} {sg : Sl} {v : Nat → Sh} {ts0 : List (Int × Sl × Sl)} {wk0 : List Int} {on0 : List Bool} {no : Nat} {Out : Nat → List (Int × Sl × Sl) × List Int × List Bool → Hp → Prop} {R : Hp}
    (hk : k < f.ins.length) (ga : a.Good f.slots.toNat) (hav : ∀ u, GoodV f.slots.toNat f.ins.length u → (flow hc hf).Cl u → a.le (u k)) (ho : RSh R o (mOut c f k a)) (hsg : RSlice R sg kI (mGoes f.ins[k] k))
    (hw : WkOk (flow hc hf) v ts0 wk0 on0 R) (hM : 3 * hsum f.slots.toNat v f.ins.length + wk0.length ≤ M) (hMB : M ≤ 40000000) (hva : v k = a) (hcl : ∀ i : Nat, i < f.ins.length → v i ≠ none → (i : Int) ∈ wk0 ∨ (flow hc hf).At v i ∨ i = k)
    (h : ∀ w ts wk on R', R.le R' → WkOk (flow hc hf) w ts wk on R' → 3 * hsum f.slots.toNat w f.ins.length + wk.length ≤ M → (∀ i : Nat, i < f.ins.length → w i ≠ none → (i : Int) ∈ wk ∨ (flow hc hf).At w i) → ∃ n' : Nat, n' < no ∧ Out n' (ts, wk, on) R') :
    (∃ Inv_1 : Nat → List (Int × Sl × Sl) × List Int × List Bool × Int → Hp → Prop, ((∃ n_1 : Nat, (Inv_1 n_1 (ts0, wk0, on0, (0 : Int)) R)) ∧ (∀ n_1 : Nat, (∀ x_4 : List (Int × Sl × Sl) × List Int × List Bool × Int, (∀ R'_4 : Hp, ((Hp.le R R'_4) → ((Inv_1 n_1 x_4 R'_4) → (((decide (x_4.snd.snd.snd < (↑sg.len : Int)) = true) → (∃ y_5 : Int, ((RElem R'_4 sg [Kd.int IntKind.i64] x_4.snd.snd.snd y_5) ∧ ((((y_5 == (↑f.ins.length : Int)) = true) → (∃ n' : Nat, ((n' < n_1) ∧ (Inv_1 n' (x_4.fst, x_4.snd.fst, x_4.snd.snd.fst, IntKind.wrap IntKind.i64 (x_4.snd.snd.snd + (1 : Int))) R'_4)))) ∧ (((y_5 == (↑f.ins.length : Int)) = false) → (((0 : Int) ≤ y_5) ∧ ((y_5 < (↑(List.length x_4.fst) : Int)) ∧ (∃ y_6 : Int × Sl × Sl, ((x_4.fst[Int.toNat y_5]? = some y_6) ∧ (CallsR P0 (48 : Nat) { toList := [Value.agg ⟨[Value.int IntKind.i64 y_6.fst, Value.slice y_6.snd.fst.a y_6.snd.fst.len y_6.snd.fst.cap, Value.slice y_6.snd.snd.a y_6.snd.snd.len y_6.snd.snd.cap]⟩, Value.agg ⟨[Value.int IntKind.i64 o.fst, Value.slice o.snd.fst.a o.snd.fst.len o.snd.fst.cap, Value.slice o.snd.snd.a o.snd.snd.len o.snd.snd.cap]⟩] } R'_4 fun e_2 R'_5 => (∃ x_5 : Int × Sl × Sl, (∃ x_6 : Bool, ((e_2 = Ending.returned (Value.tuple { toList := [Value.agg ⟨[Value.int IntKind.i64 x_5.fst, Value.slice x_5.snd.fst.a x_5.snd.fst.len x_5.snd.fst.cap, Value.slice x_5.snd.snd.a x_5.snd.snd.len x_5.snd.snd.cap]⟩, Value.bool x_6] })) ∧ (((x_6 = true) → (((0 : Int) ≤ y_5) ∧ ((y_5 < (↑(List.length x_4.fst) : Int)) ∧ (∃ z_2 : Int × Sl × Sl, ((x_4.fst[Int.toNat y_5]? = some z_2) ∧ (((0 : Int) ≤ y_5) ∧ ((y_5 < (↑(List.length x_4.snd.snd.fst) : Int)) ∧ (∃ y_7 : Bool, ((x_4.snd.snd.fst[Int.toNat y_5]? = some y_7) ∧ ((((!y_7) = true) → (((0 : Int) ≤ y_5) ∧ ((y_5 < (↑(List.length x_4.snd.snd.fst) : Int)) ∧ (∃ z_3 : Bool, ((x_4.snd.snd.fst[Int.toNat y_5]? = some z_3) ∧ (((List.length x_4.snd.fst + List.length (List.set (List.replicate (1 : Nat) (Tup.zero [Kd.int IntKind.i64])) (0 : Nat) y_5)) * (8 : Nat) ≤ (140737488355328 : Nat)) ∧ (∃ n' : Nat, ((n' < n_1) ∧ (Inv_1 n' (List.set x_4.fst (Int.toNat y_5) (x_5.fst, x_5.snd.fst, x_5.snd.snd), x_4.snd.fst ++ List.set (List.replicate (1 : Nat) (Tup.zero [Kd.int IntKind.i64])) (0 : Nat) y_5, List.set x_4.snd.snd.fst (Int.toNat y_5) true, IntKind.wrap IntKind.i64 (x_4.snd.snd.snd + (1 : Int))) R'_5))))))))) ∧ (((!y_7) = false) → (∃ n' : Nat, ((n' < n_1) ∧ (Inv_1 n' (List.set x_4.fst (Int.toNat y_5) (x_5.fst, x_5.snd.fst, x_5.snd.snd), x_4.snd.fst, x_4.snd.snd.fst, IntKind.wrap IntKind.i64 (x_4.snd.snd.snd + (1 : Int))) R'_5)))))))))))))) ∧ ((x_6 = false) → (∃ n' : Nat, ((n' < n_1) ∧ (Inv_1 n' (x_4.fst, x_4.snd.fst, x_4.snd.snd.fst, IntKind.wrap IntKind.i64 (x_4.snd.snd.snd + (1 : Int))) R'_5)))))))))))))))))) ∧ ((decide (x_4.snd.snd.snd < (↑sg.len : Int)) = false) → (∃ n' : Nat, ((n' < no) ∧ (Out n' (x_4.fst, x_4.snd.fst, x_4.snd.snd.fst) R'_4)))))))))))) := by
  have hln := hc.head f hf
  have g2 := mGoes_len f.ins[k] k
  have grng := goes_rng hc hf hk
  rw [hsg.len]
  refine loop_upX (mGoes f.ins[k] k).length 0 _ (fun m x R' => ∃ w, WkOk (flow hc hf) w x.1 x.2.1 x.2.2.1 R' ∧ 3 * hsum f.slots.toNat w f.ins.length + x.2.1.length ≤ M ∧ ∀ i : Nat, i < f.ins.length → w i ≠ none → (i : Int) ∈ x.2.1 ∨ (flow hc hf).At w i ∨ (i = k ∧ w k = a ∧ Part w (mGoes f.ins[k] k) (mOut c f k a) f.ins.length m))
    (fun m x => x.2.2.2 = (m : Int)) rfl (by omega) ⟨v, hw, hM, fun i hi hv => ?_⟩ fun Inv3 m x R7 l7 hm hx hq hn3 => ?_
  · rcases hcl i hi hv with z | z | z
    · exact .inl z
    · exact .inr (.inl z)
    · exact .inr (.inr ⟨z, hva, fun j hj => by omega⟩)
  obtain ⟨ts, wk, on, im⟩ := x
  obtain ⟨w, hww, hMw, hclw⟩ := hq
  dsimp only at *
  subst hx
  refine ⟨fun b5 => ?_, fun b5 => ?_⟩
  · have b5' : m < (mGoes f.ins[k] k).length := by rw [dec_t] at b5; omega
    have gm := hsg.get l7 b5'
    have gr := grng _ (List.getElem_mem b5')
    have gmem := goes_mem hk b5'
    have gD : (mGoes f.ins[k] k).getD m 0 = (mGoes f.ins[k] k)[m] := getD_at b5'
    refine ⟨_, gm, ?_⟩
    rw [hww.sh.len, hww.onl]
    generalize (mGoes f.ins[k] k)[m] = q at *
    refine ⟨fun b6 => ?_, fun b6 => ⟨gr.1, ?_, ?_⟩⟩
    · rw [beq_iff_eq] at b6
      refine hn3 _ R7 b5' (wrap_up (by omega)) ⟨w, hww, hMw, fun i hi hv => ?_⟩
      rcases hclw i hi hv with z | z | ⟨z1, z2, z3⟩
      · exact .inl z
      · exact .inr (.inl z)
      · refine .inr (.inr ⟨z1, z2, fun j hj hjn => ?_⟩)
        rcases Nat.lt_or_ge j m with y | y
        · exact z3 j y hjn
        · have : j = m := by omega
          subst this
          rw [gD] at hjn; omega
    · rw [beq_eq_false_iff_ne] at b6; omega
    · rw [beq_eq_false_iff_ne] at b6
      have hqn : q.toNat < f.ins.length := by omega
      have hqi : ((q.toNat : Nat) : Int) = q := by omega
      obtain ⟨y6, g6, r6⟩ := hww.sh.get hqn
      refine ⟨y6, g6, c_impl_join (S := f.slots.toNat) (by omega) (hww.st.good _ hqn) ((flow hc hf).good k a hk ga) r6 (ho.mono l7) fun x6 R8 l8 r8 => ⟨x6, _, rfl, fun b7 => ?_, fun b7 => ?_⟩⟩
      · have b7 : (w q.toNat).join ((flow hc hf).out k a) ≠ w q.toNat := of_decide_eq_true b7
        have st' := hww.st.upd hk gmem hqn ga hav
        have sh' := (hww.sh.mono l8).set q.toNat r8
        have grow := fun i => hww.st.grow hk hqn ga i
        have hs := hww.st.hsum_lt hk hqn ga b7
        have qne : (w q.toNat).join ((flow hc hf).out k a) ≠ none := fun e => by
          have h1 := Sh.join_left (hww.st.good _ hqn) ((flow hc hf).good k a hk ga)
          rw [e] at h1
          cases hwq : w q.toNat with
          | none => rw [hwq] at e b7; exact b7 e
          | some z => rw [hwq] at h1; cases z <;> exact h1
        have key : ∀ wk' : List Int, (∀ y ∈ wk, y ∈ wk') → q ∈ wk' → ∀ i : Nat, i < f.ins.length → upd w q.toNat ((w q.toNat).join ((flow hc hf).out k a)) i ≠ none → (i : Int) ∈ wk' ∨ (flow hc hf).At (upd w q.toNat ((w q.toNat).join ((flow hc hf).out k a))) i ∨ (i = k ∧ upd w q.toNat ((w q.toNat).join ((flow hc hf).out k a)) k = a ∧ Part (upd w q.toNat ((w q.toNat).join ((flow hc hf).out k a))) (mGoes f.ins[k] k) (mOut c f k a) f.ins.length (m + 1)) := fun wk' hsub hqm i hi hv => by
          by_cases e : i = q.toNat
          · subst e; rw [hqi]; exact .inl hqm
          · have ei := upd_ne w ((w q.toNat).join ((flow hc hf).out k a)) e
            rw [ei] at hv
            rcases hclw i hi hv with z | z | ⟨z1, z2, z3⟩
            · exact .inl (hsub _ z)
            · exact .inr (.inl (At.grow z ei grow))
            · subst z1
              refine .inr (.inr ⟨rfl, ei.trans z2, fun j hj hjn => ?_⟩)
              rcases Nat.lt_or_ge j m with y | y
              · exact (z3.grow grow) j y hjn
              · have : j = m := by omega
                subst this
                rw [gD, upd_at]
                exact Sh.join_right (hww.st.good _ hqn) ((flow hc hf).good _ a hk ga)
        have wkv : ∀ y ∈ wk, 0 ≤ y ∧ y.toNat < f.ins.length ∧ upd w q.toNat ((w q.toNat).join ((flow hc hf).out k a)) y.toNat ≠ none := fun y hy => by
          have := hww.wk_ y hy
          exact ⟨this.1, this.2.1, Sh.le_ne (grow _) this.2.2⟩
        have onq : q.toNat < on.length := by rw [hww.onl]; exact hqn
        refine ⟨gr.1, by omega, y6, g6, gr.1, by omega, on[q.toNat], List.getElem?_eq_getElem onq, fun b8 => ⟨gr.1, by omega, on[q.toNat], List.getElem?_eq_getElem onq, ?_, ?_⟩, fun b8 => ?_⟩
        · simp; omega
        · refine hn3 _ R8 b5' (wrap_up (by omega)) ⟨_, ⟨st', sh', by rw [List.length_set]; exact hww.onl, fun y hy => ?_, fun i hi => ?_⟩, by simp; omega, key _ (fun y hy => by simp [hy]) (by simp)⟩
          · rw [List.mem_append] at hy
            rcases hy with hy | hy
            · exact wkv y hy
            · have : y = q := by simpa using hy
              subst this
              exact ⟨gr.1, hqn, by rw [upd_at]; exact qne⟩
          · rw [List.getElem?_set] at hi
            split at hi
            · rename_i e
              subst e
              rw [hqi]; simp
            · have := hww.on_ i hi
              simp [this]
        · have hb : on[q.toNat] = true := by simpa using b8
          have hqm : q ∈ wk := hqi ▸ hww.on_ q.toNat (by rw [List.getElem?_eq_getElem onq, hb])
          exact hn3 _ R8 b5' (wrap_up (by omega)) ⟨_, ⟨st', sh', hww.onl, wkv, hww.on_⟩, by simp only; omega, key _ (fun y hy => hy) hqm⟩
      · have b7 : (w q.toNat).join ((flow hc hf).out k a) = w q.toNat := Decidable.not_not.1 (of_decide_eq_false b7)
        refine hn3 _ R8 b5' (wrap_up (by omega)) ⟨w, hww.mono l8, hMw, fun i hi hv => ?_⟩
        rcases hclw i hi hv with z | z | ⟨z1, z2, z3⟩
        · exact .inl z
        · exact .inr (.inl z)
        · subst z1
          refine .inr (.inr ⟨rfl, z2, fun j hj hjn => ?_⟩)
          rcases Nat.lt_or_ge j m with y | y
          · exact z3 j y hjn
          · have : j = m := by omega
            subst this
            have jr := Sh.join_right (hww.st.good _ hqn) ((flow hc hf).good _ a hk ga)
            rw [b7] at jr
            rw [gD]; exact jr
  · have b5 : m = (mGoes f.ins[k] k).length := by rw [dec_f] at b5; omega
    subst b5
    refine h w ts wk on R7 l7 hww hMw fun i hi hv => ?_
    rcases hclw i hi hv with z | z | ⟨z1, z2, z3⟩
    · exact .inl z
    · exact .inr z
    · subst z1
      refine .inr fun j hj hjn => ?_
      rw [z2]
      exact part_all (c := c) hk z3 j hj hjn
/-- Whether a place fits. -/
def fitAt (c : List MFn) (f : MFn) (v : Nat → Sh) (i : Nat) : Bool := decide (mOut c f i (v i) ≠ some none)
def badNo (o : Option Nat) : Int := match o with
  | some i => i
  | none => -1
def WkInv {c : List MFn} (hc : CodeOk c) {f : MFn} (hf : f ∈ c) (n : Nat) (x : List (Int × Sl × Sl) × List Int × List Bool) (R' : Hp) : Prop := ∃ v, WkOk (flow hc hf) v x.1 x.2.1 x.2.2 R' ∧ n = 3 * hsum f.slots.toNat v f.ins.length + x.2.1.length ∧ n ≤ 40000000 ∧ ∀ i : Nat, i < f.ins.length → v i ≠ none → (i : Int) ∈ x.2.1 ∨ (flow hc hf).At v i
theorem c_impl_shapes {c : List MFn} {cs : Sl} {fi : Nat} {f : MFn} {R : Hp} {K : Ending → Hp → Prop} (g : Glob R) (hc : CodeOk c) (hf : f ∈ c) (hcs : RCode R cs c) (hfi : c[fi]? = some f)
    (h : ∀ (v : Nat → Sh) (s : Sl) (ts : List (Int × Sl × Sl)) R', R.le R' → Shaped hc hf v → RSlice R' s kSh ts → RShs R' ts v f.ins.length → K (.returned (.tuple #[s.val, .int .i64 (badNo (firstBad f.ins.length (fitAt c f v)))])) R') :
    CallsR P0 F_impl_shapes #[.agg #[cs.val], .int .i64 fi] R K := go_impl_shapes (by
  unfold vc_impl_shapes
  have rr := Hp.le.refl R
  obtain ⟨t, e1, hfn⟩ := hcs.at_ fi f hfi
  refine ⟨t, e1, ?_⟩
  obtain ⟨nm, ps, res, slots, is⟩ := t
  have hln := hc.head f hf
  have ei : (is.len : Int) = (f.ins.length : Int) := hfn.ins.len
  have esl : slots = f.slots := hfn.sl
  subst esl
  dsimp only
  rw [ei]
  refine ⟨by omega, Int.le_refl _, by omega, by omega, Int.le_refl _, by omega, f.params, hfn.ps, Int.le_refl _, by simp; omega, fun s R2 f2 => ?_⟩
  have hs2 : RSlice R2 s kI (f.params ++ List.replicate (f.slots.toNat - f.params.length) 0) := by
    have := f2.sl
    rw [List.length_replicate, List.take_of_length_le (by omega), Nat.min_eq_left (by omega), List.drop_replicate] at this
    exact this
  have l2 := f2.le
  refine ⟨(0, ⟨none, 0, 0⟩, ⟨none, 0, 0⟩), by rw [Int.toNat_natCast, List.getElem?_replicate, if_pos (by omega)]; rfl, by omega, Int.le_refl _, by omega, ?_⟩
  have shs0 := first_shs hs2 ⟨none, 0, 0⟩ (nil_slice R2 kI)
  have st0 := none_low hc hf
  have hb0 := hsum_bound st0.good
  have hB : 3 * (f.ins.length * (f.slots.toNat + 2)) + 1 ≤ 40000000 := by
    have h1 : f.ins.length * (f.slots.toNat + 2) ≤ 50000 * 202 := Nat.mul_le_mul (by omega) (by omega)
    omega
  rw [Int.toNat_natCast]
  refine loop_any _ (WkInv hc hf)
    ⟨_, _, ⟨st0, shs0, List.length_replicate, fun w hw => ?_, fun i hi => ?_⟩, rfl, ?_, fun i hi hv => ?_⟩ fun n x R3 l3 hinv => ?_
  · have : w = 0 := by simpa using hw
    subst this
    exact ⟨by omega, by simp; omega, by simp [upd_at, mFirst]⟩
  · rw [List.getElem?_replicate] at hi
    split at hi <;> cases hi
  · simp only [List.length_singleton]; omega
  · by_cases e : i = 0
    · subst e; exact .inl (by simp)
    · rw [upd_ne _ _ e] at hv; exact absurd rfl hv
  obtain ⟨v, hw, hn0, hnB, hcl⟩ := hinv
  obtain ⟨ts, wk, on⟩ := x
  dsimp only at *
  have l03 := l2.trans l3
  rw [hw.sh.len, hw.onl]
  refine ⟨fun b1 => ?_, fun b1 => ?_⟩
  · have b1 : 0 < wk.length := by rw [dec_t] at b1; omega
    have ew : IntKind.wrap .i64 ((wk.length : Int) - 1) = ((wk.length - 1 : Nat) : Int) := by rw [wrap_in (by omega)]; omega
    rw [ew, Int.toNat_natCast]
    have hwk : wk.length - 1 < wk.length := by omega
    have hv := hw.wk_ _ (List.getElem_mem hwk)
    have htk : wk = wk.take (wk.length - 1) ++ [wk[wk.length - 1]] := by
      have := List.take_succ_eq_append_getElem hwk
      rw [← this, List.take_of_length_le (by omega)]
    refine ⟨by omega, by omega, _, List.getElem?_eq_getElem hwk, by omega, by omega, ?_⟩
    generalize wk[wk.length - 1] = y1 at *
    obtain ⟨k, rfl⟩ : ∃ k : Nat, y1 = (k : Int) := ⟨y1.toNat, by omega⟩
    rw [Int.toNat_natCast] at hv ⊢
    have hk := hv.2.1
    obtain ⟨y2, g2, r2⟩ := hw.sh.get hk
    have hon : k < on.length := by rw [hw.onl]; exact hk
    have hlen' : (wk.take (wk.length - 1)).length + 1 = wk.length := by simp; omega
    have hw' : ∀ R', R3.le R' → WkOk (flow hc hf) v ts (wk.take (wk.length - 1)) (on.set k false) R' := fun R' l => ⟨hw.st, hw.sh.mono l, by rw [List.length_set]; exact hw.onl, fun w hm => hw.wk_ w (List.mem_of_mem_take hm), fun i hi => by
      rw [List.getElem?_set] at hi
      split at hi
      · first | cases hi | (split at hi <;> cases hi)
      · rename_i e
        have := hw.on_ i hi
        rw [htk, List.mem_append] at this
        rcases this with z | z
        · exact z
        · have : (i : Int) = (k : Int) := by simpa using z
          omega⟩
    have hcl' : ∀ i : Nat, i < f.ins.length → v i ≠ none → (i : Int) ∈ wk.take (wk.length - 1) ∨ (flow hc hf).At v i ∨ i = k := fun i hi hvi => by
      rcases hcl i hi hvi with z | z
      · rw [htk, List.mem_append] at z
        rcases z with z | z
        · exact .inl z
        · have : (i : Int) = (k : Int) := by simpa using z
          exact .inr (.inr (by omega))
      · exact .inr (.inl z)
    have hav : ∀ u, GoodV f.slots.toNat f.ins.length u → (flow hc hf).Cl u → (v k).le (u k) := fun u gu cu => hw.st.low u gu cu k hk
    have ga := hw.st.good k hk
    have fin : ∀ w ts' wk' on' R', R3.le R' → WkOk (flow hc hf) w ts' wk' on' R' → 3 * hsum f.slots.toNat w f.ins.length + wk'.length ≤ 3 * hsum f.slots.toNat v f.ins.length + (wk.take (wk.length - 1)).length → (∀ i : Nat, i < f.ins.length → w i ≠ none → (i : Int) ∈ wk' ∨ (flow hc hf).At w i) →
        ∃ n' : Nat, n' < n ∧ WkInv hc hf n' (ts', wk', on') R' := fun w ts' wk' on' R' l hww hM hc' => ⟨3 * hsum f.slots.toNat w f.ins.length + wk'.length, by omega, w, hww, rfl, by omega, hc'⟩
    refine ⟨by omega, by omega, on[k], List.getElem?_eq_getElem hon, by omega, by omega, y2, g2, fun b2 => ⟨by omega, by omega, y2, g2, ?_⟩, fun b2 => ?_⟩
    · rw [beq_iff_eq] at b2
      cases hvk : v k with
      | none => exact absurd hvk hv.2.2
      | some z =>
        rw [hvk] at r2 ga hav
        cases z with
        | none => have : y2.1 = 2 := r2; omega
        | some p =>
          obtain ⟨sl, st⟩ := p
          have hsl : RSlice R3 y2.2.1 kI sl := r2.2.1
          have hst : RSlice R3 y2.2.2 kI st := r2.2.2
          rw [b2]
          refine c_impl_effect (g.mono l03) hc hf hk (hcs.mono l03) (hfn.mono l03) ga hsl hst (fun q hq s1 s2 R4 l4 hs1 hs2 => ⟨(1, s1, s2), true, rfl, fun _ => ?_, fun x => (by cases x)⟩) fun hq R4 l4 => ⟨(0, ⟨none, 0, 0⟩, ⟨none, 0, 0⟩), false, rfl, fun x => (by cases x), fun _ => ?_⟩
          · refine ⟨_, hfn.ins.get (l03.trans l4) hk, c_impl_next (by omega) fun sg R5 l5 hsg => ⟨sg, rfl, ?_⟩⟩
            exact goes_loop (Out := WkInv hc hf) (a := some (some (sl, st))) (o := (1, s1, s2)) hk ga hav (by rw [hq]; exact ⟨rfl, hs1.mono l5, hs2.mono l5⟩) hsg (hw' R5 (l4.trans l5)) (Nat.le_refl _) (by omega) hvk hcl' fun w ts' wk' on' R' l => fin w ts' wk' on' R' ((l4.trans l5).trans l)
          · refine ⟨_, hfn.ins.get (l03.trans l4) hk, c_impl_next (by omega) fun sg R5 l5 hsg => ⟨sg, rfl, ?_⟩⟩
            exact goes_loop (Out := WkInv hc hf) (a := some (some (sl, st))) (o := (2, ⟨none, 0, 0⟩, ⟨none, 0, 0⟩)) hk ga hav (by rw [hq]; rfl) hsg (hw' R5 (l4.trans l5)) (Nat.le_refl _) (by omega) hvk hcl' fun w ts' wk' on' R' l => fin w ts' wk' on' R' ((l4.trans l5).trans l)
    · rw [beq_eq_false_iff_ne] at b2
      cases hvk : v k with
      | none => exact absurd hvk hv.2.2
      | some z =>
        rw [hvk] at r2 ga hav
        cases z with
        | some p => exact absurd r2.1 b2
        | none =>
          refine ⟨_, hfn.ins.get l03 hk, c_impl_next (by omega) fun sg R5 l5 hsg => ⟨sg, rfl, ?_⟩⟩
          exact goes_loop (Out := WkInv hc hf) (a := some none) (o := (2, ⟨none, 0, 0⟩, ⟨none, 0, 0⟩)) hk ga hav rfl hsg (hw' R5 l5) (Nat.le_refl _) (by omega) hvk hcl' fun w ts' wk' on' R' l => fin w ts' wk' on' R' (l5.trans l)
  · have b1 : wk.length = 0 := by rw [dec_f] at b1; omega
    have b1 : wk = [] := List.length_eq_zero_iff.1 b1
    subst b1
    have shd : Shaped hc hf v := ⟨hw.st, hw.st.cl fun i hi => by
      by_cases e : v i = none
      · intro j hj hjn
        rw [e]; trivial
      · rcases hcl i hi e with z | z
        · simp at z
        · exact z⟩
    refine loop_upX f.ins.length 0 _ (fun k x _ => x = (-1, (k : Int)) ∧ ∀ j, j < k → fitAt c f v j = true) (fun k x => x = (-1, (k : Int))) rfl (by omega) ⟨rfl, fun j hj => by omega⟩ fun Inv k x R4 l4 hk hx hq hn => ?_
    subst hx
    dsimp only
    have l04 := l03.trans l4
    have bad : k < f.ins.length → fitAt c f v k = false → ∀ (s1 : Sl) R5, R4.le R5 → RSlice R5 s1 kSh ts → K (.returned (.tuple #[s1.val, .int .i64 k])) R5 := fun hk hb s1 R5 l5 hs1 => by
      have := h v s1 ts R5 (l04.trans l5) shd hs1 (hw.sh.mono (l4.trans l5))
      rw [firstBad_some hk hb hq.2] at this
      exact this
    refine ⟨fun b2 => ?_, fun b2 s1 R5 f5 => ?_⟩
    · have b2 : k < f.ins.length := by rw [dec_t] at b2; omega
      obtain ⟨y1, g1, r1⟩ := hw.sh.get b2
      rw [Int.toNat_natCast]
      have next : ∀ R5, fitAt c f v k = true → ∃ n', n' < f.ins.length - k ∧ Inv n' (-1, IntKind.wrap .i64 ((k : Int) + 1)) R5 := fun R5 hb => by
        refine hn _ R5 b2 (by rw [wrap_up (by omega)]) ⟨by rw [wrap_up (by omega)], fun j hj => ?_⟩
        rcases Nat.lt_or_ge j k with z | z
        · exact hq.2 j z
        · rw [show j = k by omega]; exact hb
      refine ⟨by omega, by omega, y1, g1, fun b3 s1 R5 f5 => bad b2 ?_ s1 R5 f5.le f5.sl, fun b3 => ⟨fun b4 => ?_, fun b4 => next R4 ?_⟩⟩
      · rw [beq_iff_eq] at b3
        cases hvk : v k with
        | none => rw [hvk] at r1; have : y1.1 = 0 := r1; omega
        | some z =>
          cases z with
          | none => unfold fitAt; rw [hvk]; rfl
          | some p => rw [hvk] at r1; have : y1.1 = 1 := r1.1; omega
      · rw [beq_iff_eq] at b4
        have ga := hw.st.good k b2
        cases hvk : v k with
        | none => rw [hvk] at r1; have : y1.1 = 0 := r1; omega
        | some z =>
          rw [hvk] at r1 ga
          cases z with
          | none => have : y1.1 = 2 := r1; omega
          | some p =>
            obtain ⟨sl, st⟩ := p
            have r1 := r1
            have hsl : RSlice R4 y1.2.1 kI sl := r1.2.1.mono l4
            have hst : RSlice R4 y1.2.2 kI st := r1.2.2.mono l4
            rw [b4]
            refine c_impl_effect (g.mono l04) hc hf b2 (hcs.mono l04) (hfn.mono l04) ga hsl hst (fun q hq s1 s2 R5 l5 hs1 hs2 => ⟨(1, s1, s2), true, rfl, fun x => (by cases x), fun _ => next R5 ?_⟩) fun hq R5 l5 => ⟨(0, ⟨none, 0, 0⟩, ⟨none, 0, 0⟩), false, rfl, fun _ s1 R6 f6 => bad b2 ?_ s1 R6 (l5.trans f6.le) f6.sl, fun x => (by cases x)⟩
            · unfold fitAt; rw [hvk, hq]; rfl
            · unfold fitAt; rw [hvk, hq]; rfl
      · rw [beq_eq_false_iff_ne] at b3 b4
        cases hvk : v k with
        | none => unfold fitAt; rw [hvk]; rfl
        | some z =>
          rw [hvk] at r1
          cases z with
          | none => exact absurd r1 b3
          | some p => exact absurd r1.1 b4
    · have b2 : k = f.ins.length := by rw [dec_f] at b2; omega
      subst b2
      have := h v s1 ts R5 (l04.trans f5.le) shd f5.sl (hw.sh.mono (l4.trans f5.le))
      rw [firstBad_none hq.2] at this
      exact this)
end Go.KE

/- The check of a code. -/
namespace Go.KE
set_option maxRecDepth 100000

theorem firstFrom_all {ok : Nat → Bool} : ∀ {m k : Nat}, firstFrom ok m k = none → ∀ i, k ≤ i → i < k + m → ok i = true
  | 0, k, _, i, h1, h2 => by omega
  | m + 1, k, h, i, h1, h2 => by
    simp only [firstFrom] at h
    split at h
    · rename_i hk
      rcases Nat.lt_or_ge k i with x | x
      · exact firstFrom_all h i (by omega) (by omega)
      · have : i = k := by omega
        subst this; exact hk
    · cases h
theorem firstBad_all {n : Nat} {ok : Nat → Bool} (h : firstBad n ok = none) : ∀ i, i < n → ok i = true := fun i hi => firstFrom_all h i (by omega) (by omega)
theorem firstFrom_congr {a b : Nat → Bool} : ∀ {m k : Nat}, (∀ i, i < k + m → a i = b i) → firstFrom a m k = firstFrom b m k
  | 0, _, _ => rfl
  | m + 1, k, h => by
    simp only [firstFrom]
    rw [h k (by omega), firstFrom_congr fun i hi => h i (by omega)]
theorem firstBad_congr {n : Nat} {a b : Nat → Bool} (h : ∀ i, i < n → a i = b i) : firstBad n a = firstBad n b := firstFrom_congr fun i hi => h i (by omega)
theorem codeOk_of {c : List MFn} (h : (mPlain c).1 = 0) : CodeOk c := by
  unfold mPlain at h
  split at h
  · rename_i hl
    cases h1 : firstBad c.length (fnOkAt c) with
    | some k => rw [h1] at h; cases h
    | none =>
      rw [h1] at h
      simp only at h
      cases h2 : firstBad c.length (fun k => (insBad c k).isNone) with
      | some k => rw [h2] at h; cases h
      | none =>
        have a1 := firstBad_all h1
        have a2 := firstBad_all h2
        have hd : ∀ f ∈ c, mHeadOk f = true ∧ ∃ k, k < c.length ∧ c[k]? = some f := fun f hf => by
          obtain ⟨k, hk, rfl⟩ := List.mem_iff_getElem.1 hf
          have := a1 k hk
          rw [fnOkAt_eq hk] at this
          simp only [Bool.and_eq_true] at this
          exact ⟨this.1, k, hk, List.getElem?_eq_getElem hk⟩
        refine ⟨by simp [mIn] at hl; omega, fun f hf => ?_, fun f hf x hx => ?_⟩
        · have := (hd f hf).1
          simp [mHeadOk, mIn] at this
          obtain ⟨⟨⟨⟨⟨b1, b2⟩, b3⟩, b4⟩, b5⟩, b6⟩ := this
          exact ⟨b2, b3, b4, b5, by omega⟩
        · obtain ⟨_, k, hk, he⟩ := hd f hf
          have := a2 k hk
          unfold insBad at this
          rw [he] at this
          have a3 := firstBad_all (Option.isNone_iff_eq_none.1 this)
          obtain ⟨i, hi, rfl⟩ := List.mem_iff_getElem.1 hx
          have := a3 i hi
          rwa [insAt_eq hi] at this
  · cases h
open Classical in
/-- The shapes of a function: there is but one such. -/
noncomputable def theV {c : List MFn} (hc : CodeOk c) {f : MFn} (hf : f ∈ c) : Nat → Sh := if h : ∃ v, Shaped hc hf v then Classical.choose h else fun _ => none
theorem theV_eq {c : List MFn} {hc : CodeOk c} {f : MFn} {hf : f ∈ c} {v : Nat → Sh} (h : Shaped hc hf v) : ∀ i, i < f.ins.length → v i = theV hc hf i := by
  have he : ∃ v, Shaped hc hf v := ⟨v, h⟩
  have hs := Classical.choose_spec he
  have e : theV hc hf = Classical.choose he := by unfold theV; rw [dif_pos he]
  rw [e]
  exact (flow hc hf).uniq h.1.good hs.1.good h.2 hs.2 h.1.low hs.1.low
open Classical in
noncomputable def fnBad (c : List MFn) (k : Nat) : Option Nat := if h : CodeOk c ∧ k < c.length then firstBad c[k].ins.length (fitAt c c[k] (theV h.1 (List.getElem_mem h.2))) else none
theorem fnBad_eq {c : List MFn} {k : Nat} (hc : CodeOk c) (hk : k < c.length) {v : Nat → Sh} (h : Shaped hc (List.getElem_mem hk) v) : fnBad c k = firstBad c[k].ins.length (fitAt c c[k] v) := by
  unfold fnBad
  rw [dif_pos ⟨hc, hk⟩]
  refine firstBad_congr fun i hi => ?_
  unfold fitAt
  rw [theV_eq h i hi]
/-- What CheckCode answers. -/
noncomputable def mCheck (c : List MFn) : Int × Int × Int := if (mPlain c).1 ≠ 0 then mPlain c else match firstBad c.length (fun k => (fnBad c k).isNone) with
  | some k => (5, k, ((fnBad c k).getD 0 : Nat))
  | none => (0, 0, 0)
theorem mCheck_plain {c : List MFn} (h : (mPlain c).1 ≠ 0) : mCheck c = mPlain c := by unfold mCheck; rw [if_pos h]
theorem mCheck_bad {c : List MFn} {k i : Nat} (h : (mPlain c).1 = 0) (hk : k < c.length) (hb : fnBad c k = some i) (ha : ∀ j, j < k → fnBad c j = none) : mCheck c = ((5 : Int), (k : Int), (i : Int)) := by
  unfold mCheck
  rw [if_neg (fun x => x h), firstBad_some hk (by rw [hb]; rfl) fun j hj => by rw [ha j hj]; rfl]
  simp only [hb, Option.getD_some]
theorem mCheck_ok {c : List MFn} (h : (mPlain c).1 = 0) (ha : ∀ j, j < c.length → fnBad c j = none) : mCheck c = (0, 0, 0) := by
  unfold mCheck
  rw [if_neg (fun x => x h), firstBad_none fun j hj => by rw [ha j hj]; rfl]
theorem c_impl_CheckCode {cs : Sl} {c : List MFn} {R : Hp} {K : Ending → Hp → Prop} (g : Glob R) (hcs : RCode R cs c) (h : ∀ R', R.le R' → K (.returned (trip (mCheck c))) R') :
    CallsR P0 F_impl_CheckCode #[.agg #[cs.val]] R K := go_impl_CheckCode (by
  unfold vc_impl_CheckCode
  have hcl : (cs.len : Int) = (c.length : Int) := by rw [hcs.len]
  refine c_impl_checkParts g hcs fun R1 l1 => ⟨_, _, _, rfl, fun a1 => kt (h R1 l1) ?_, fun a1 => ?_⟩
  · rw [bne_iff_ne] at a1
    rw [mCheck_plain a1]
  · rw [bne_eq_false_iff_eq] at a1
    have hc := codeOk_of a1
    have hlen := hc.len
    rw [hcl]
    refine loop_up c.length 0 (fun k _ => ∀ j, j < k → fnBad c j = none) (by omega) (fun j b => by omega) fun Inv k R2 l2 hk hq hn => ⟨fun b1 => ?_, fun b1 => ?_⟩
    · have b1 : k < c.length := by rw [dec_t] at b1; omega
      have l02 := l1.trans l2
      refine c_impl_shapes (g.mono l02) hc (List.getElem_mem b1) (hcs.mono l02) (List.getElem?_eq_getElem b1) fun v s ts R3 l3 hv _ _ => ⟨s, _, rfl, ?_⟩
      have hb := fnBad_eq hc b1 hv
      rw [← hb]
      cases e : fnBad c k with
      | some i =>
        have hi : badNo (some i) = (i : Int) := rfl
        refine ⟨fun b2 => kt (h R3 (l02.trans l3)) ?_, fun b2 => ?_⟩
        · rw [mCheck_bad a1 b1 e hq, hi]
        · rw [dec_f, hi] at b2; omega
      | none =>
        have hi : badNo none = -1 := rfl
        refine ⟨fun b2 => ?_, fun b2 => ?_⟩
        · rw [dec_t, hi] at b2; omega
        · obtain ⟨n', hn1, hn2⟩ := hn R3 b1 (fun j a => by
            rcases Nat.lt_or_ge j k with x | x
            · exact hq j x
            · rw [show j = k by omega]; exact e)
          exact ⟨n', hn1, by rw [wrap_up (by omega)]; exact hn2⟩
    · have b1 : k = c.length := by rw [dec_f] at b1; omega
      subst b1
      exact kt (h R2 (l1.trans l2)) (mCheck_ok a1 hq))
theorem c_spec_CheckCode {cs : Sl} {c : List MFn} {R : Hp} {K : Ending → Hp → Prop} (hcs : RCode R cs c) (h : ∀ R', R.le R' → K (.returned (trip (mCheck c))) R') :
    CallsR P0 F_spec_CheckCode #[.agg #[cs.val]] R K := go_spec_CheckCode (by
  unfold vc_spec_CheckCode
  have hcl : (cs.len : Int) = (c.length : Int) := by rw [hcs.len]
  refine c_spec_l7Plain hcs fun R1 l1 => ⟨_, _, _, rfl, fun a1 => kt (h R1 l1) ?_, fun a1 => ?_⟩
  · rw [bne_iff_ne] at a1
    rw [mCheck_plain a1]
  · rw [bne_eq_false_iff_eq] at a1
    have hc := codeOk_of a1
    have hlen := hc.len
    rw [hcl]
    refine loop_up c.length 0 (fun k _ => ∀ j, j < k → fnBad c j = none) (by omega) (fun j b => by omega) fun Inv k R2 l2 hk hq hn => ⟨fun b1 => ?_, fun b1 => ?_⟩
    · have b1 : k < c.length := by rw [dec_t] at b1; omega
      have l02 := l1.trans l2
      have hf := List.getElem_mem b1
      have hln := hc.head _ hf
      refine c_spec_l7Shapes hc hf (hcs.mono l02) (List.getElem?_eq_getElem b1) fun v s ts R3 l3 hv hs hts => ⟨s, rfl, ?_⟩
      have hb := fnBad_eq hc b1 hv
      have htl := hts.len
      have hsl : (s.len : Int) = (c[k].ins.length : Int) := by rw [hs.len, htl]
      rw [hsl]
      refine loop_up c[k].ins.length 0 (fun i _ => ∀ j, j < i → fitAt c c[k] v j = true) (by omega) (fun j b => by omega) fun Inv2 i R4 l4 hi hq2 hn2 => ⟨fun b2 => ?_, fun b2 => ?_⟩
      · have b2 : i < c[k].ins.length := by rw [dec_t] at b2; omega
        have l34 := l3.trans l4
        have l04 := l02.trans l34
        have ge := hs.get l4 (show i < ts.length by omega)
        have rs := (hts.at_ i _ (List.getElem?_eq_getElem (show i < ts.length by omega))).mono l4
        generalize ts[i] = y at *
        have next : ∀ R', fitAt c c[k] v i = true → ∃ n', n' < c[k].ins.length - i ∧ Inv2 n' (IntKind.wrap .i64 ((i : Int) + 1)) R' := fun R' hb => by
          obtain ⟨n', hn1, hn2⟩ := hn2 R' b2 (fun j a => by
            rcases Nat.lt_or_ge j i with x | x
            · exact hq2 j x
            · rw [show j = i by omega]; exact hb)
          exact ⟨n', hn1, by rw [wrap_up (by omega)]; exact hn2⟩
        refine ⟨y, ge, fun b3 => ?_, fun b3 => next R4 ?_⟩
        · rw [bne_iff_ne] at b3
          obtain ⟨t, e1, e2⟩ := hcs.get l04 b1
          refine ⟨t, e1, y, ge, ?_⟩
          have hvn : v i ≠ none := fun e => by rw [e] at rs; exact b3 rs
          obtain ⟨nm, ps, res, slots, is⟩ := t
          refine c_spec_l7Behind hc hf b2 (hcs.mono l04) e2 hvn (hv.1.good i b2) rs fun o R5 l5 ho => ⟨o, rfl, fun b4 => kt (h R5 (l04.trans l5)) ?_, fun b4 => next R5 ?_⟩
          · rw [beq_iff_eq] at b4
            have : fitAt c c[k] v i = false := by
              unfold fitAt
              cases e : mOut c c[k] i (v i) with
              | none => rw [e] at ho; have : o.1 = 0 := ho; omega
              | some z =>
                cases z with
                | none => rfl
                | some p => rw [e] at ho; have : o.1 = 1 := ho.1; omega
            rw [mCheck_bad a1 b1 (by rw [hb, firstBad_some b2 this hq2]) hq]
          · rw [beq_eq_false_iff_ne] at b4
            unfold fitAt
            cases e : mOut c c[k] i (v i) with
            | none => rfl
            | some z =>
              cases z with
              | none => rw [e] at ho; exact absurd ho b4
              | some p => rfl
        · rw [bne_eq_false_iff_eq] at b3
          have : v i = none := by
            cases e : v i with
            | none => rfl
            | some z =>
              rw [e] at rs
              cases z with
              | none => have : y.1 = 2 := rs; omega
              | some p => have : y.1 = 1 := rs.1; omega
          unfold fitAt
          rw [this]; rfl
      · have b2 : i = c[k].ins.length := by rw [dec_f] at b2; omega
        subst b2
        obtain ⟨n', hn1, hn2⟩ := hn R4 b1 (fun j a => by
          rcases Nat.lt_or_ge j k with x | x
          · exact hq j x
          · have : j = k := by omega
            subst this
            rw [hb, firstBad_none hq2])
        exact ⟨n', hn1, by rw [wrap_up (by omega)]; exact hn2⟩
    · have b1 : k = c.length := by rw [dec_f] at b1; omega
      subst b1
      exact kt (h R2 (l1.trans l2)) (mCheck_ok a1 hq))
end Go.KE

/- The law: its own helpers. -/
namespace Go.KE
set_option maxRecDepth 100000

def big : Nat := 9223372036854775807
structure SizedF (f : MFn) : Prop where
  name : f.name.size ≤ big
  ps : f.params.length ≤ big
  ins : f.ins.length ≤ big
  text : ∀ x ∈ f.ins, x.2.2.2.size ≤ big
structure SmallF (f : MFn) : Prop where
  ps : f.params.length ≤ 1048576
  ins : f.ins.length ≤ 1048576
theorem c_szIntS {a : Sl} {xs : List Int} {l : Int} {R : Hp} {K : Ending → Hp → Prop} (ha : RSlice R a kI xs) (hb : xs.length ≤ big) (hl : 0 ≤ l ∧ l ≤ 1048576)
    (h : ∀ (r : Int) R', R.le R' → r ≤ 1048576 → (0 ≤ r → xs.length ≤ 1048576) → K (.returned (.int .i64 r)) R') : CallsR P0 F_laws_szIntS #[a.val, .int .i64 l] R K := go_laws_szIntS (by
  unfold vc_laws_szIntS
  unfold big at hb
  rw [ha.len, wrap_in (by omega)]
  refine ⟨fun b => h _ R (Hp.le.refl R) (by omega) (fun x => by omega), fun b => h _ R (Hp.le.refl R) (by omega) (fun x => by omega)⟩)
theorem c_szIns {x : TIns} {l : Int} {R : Hp} {K : Ending → Hp → Prop} (hb : x.2.2.2.size ≤ big) (hl : 0 ≤ l ∧ l ≤ 1048576)
    (h : ∀ (r : Int) R', R.le R' → r ≤ 1048576 → K (.returned (.int .i64 r)) R') : CallsR P0 F_laws_szIns #[.agg #[.int .i64 x.1, .int .i64 x.2.1, .int .i64 x.2.2.1, .string x.2.2.2], .int .i64 l] R K := go_laws_szIns (by
  unfold vc_laws_szIns
  unfold big at hb
  rw [wrap_in (by omega)]
  refine ⟨fun b => h _ R (Hp.le.refl R) (by omega), fun b => h _ R (Hp.le.refl R) (by omega)⟩)
theorem c_szInsS {a : Sl} {xs : List TIns} {l : Int} {R : Hp} {K : Ending → Hp → Prop} (ha : RSlice R a kIns xs) (hb : xs.length ≤ big) (ht : ∀ x ∈ xs, x.2.2.2.size ≤ big) (hl : 0 ≤ l ∧ l ≤ 1048576)
    (h : ∀ (r : Int) R', R.le R' → r ≤ 1048576 → (0 ≤ r → xs.length ≤ 1048576) → K (.returned (.int .i64 r)) R') : CallsR P0 F_laws_szInsS #[a.val, .int .i64 l] R K := go_laws_szInsS (by
  unfold vc_laws_szInsS
  unfold big at hb
  rw [ha.len, wrap_in (n := l - (xs.length : Int)) (by omega)]
  refine ⟨fun b => h _ R (Hp.le.refl R) (by omega) (fun x => by omega), fun b => ?_⟩
  rw [dec_f] at b
  refine loop_upX xs.length 0 _ (fun k x _ => 0 ≤ x.1 ∧ x.1 ≤ 1048576) (fun k x => x.2 = (k : Int)) rfl (by omega) ⟨by show 0 ≤ l - (xs.length : Int); omega, by show l - (xs.length : Int) ≤ 1048576; omega⟩ fun Inv k x R1 l1 hk hx hq hn => ?_
  obtain ⟨left, ik⟩ := x
  dsimp only at *
  subst hx
  refine ⟨fun b1 => ?_, fun b1 => h _ R1 l1 hq.2 (fun _ => by omega)⟩
  have b1 : k < xs.length := by rw [dec_t] at b1; omega
  refine ⟨_, ha.get l1 b1, c_szIns (ht _ (List.getElem_mem b1)) hq fun r R2 l2 hr => ⟨r, rfl, fun b2 => h _ R2 (l1.trans l2) (by omega) (fun x => by omega), fun b2 => ?_⟩⟩
  rw [dec_f] at b2
  exact hn _ R2 b1 (wrap_up (by omega)) ⟨by show 0 ≤ r; omega, hr⟩)
theorem c_szFn {t : TFn} {f : MFn} {l : Int} {R : Hp} {K : Ending → Hp → Prop} (hf : RFn R t f) (hs : SizedF f) (hl : 0 ≤ l ∧ l ≤ 1048576)
    (h : ∀ (r : Int) R', R.le R' → r ≤ 1048576 → (0 ≤ r → SmallF f) → K (.returned (.int .i64 r)) R') : CallsR P0 F_laws_szFn #[.agg #[.string t.1, t.2.1.val, .int .i64 t.2.2.1, .int .i64 t.2.2.2.1, t.2.2.2.2.val], .int .i64 l] R K := go_laws_szFn (by
  unfold vc_laws_szFn
  have e : t.1.size ≤ big := by rw [hf.name]; exact hs.name
  unfold big at e
  rw [wrap_in (n := l - (t.1.size : Int)) (by omega)]
  refine ⟨fun b => h _ R (Hp.le.refl R) (by omega) (fun x => by omega), fun b => ?_⟩
  rw [dec_f] at b
  refine c_szIntS hf.ps hs.ps (by omega) fun r R1 l1 hr hr2 => ⟨r, rfl, fun b1 => h _ R1 l1 (by omega) (fun x => by omega), fun b1 => ?_⟩
  rw [dec_f] at b1
  refine c_szInsS (hf.ins.mono l1) hs.ins hs.text (by omega) fun r' R2 l2 hr' hr2' => ⟨r', rfl, fun b2 => h _ R2 (l1.trans l2) (by omega) (fun x => by omega), fun b2 => h _ R2 (l1.trans l2) hr' fun x => ⟨hr2 (by omega), hr2' x⟩⟩)
def Small (c : List MFn) : Prop := c.length ≤ 1048576 ∧ ∀ f ∈ c, SmallF f
theorem c_szFnS {a : Sl} {c : List MFn} {l : Int} {R : Hp} {K : Ending → Hp → Prop} (ha : RCode R a c) (hb : c.length ≤ big) (hs : ∀ f ∈ c, SizedF f) (hl : 0 ≤ l ∧ l ≤ 1048576)
    (h : ∀ (r : Int) R', R.le R' → (0 ≤ r → Small c) → K (.returned (.int .i64 r)) R') : CallsR P0 F_laws_szFnS #[a.val, .int .i64 l] R K := go_laws_szFnS (by
  unfold vc_laws_szFnS
  unfold big at hb
  have hal : (a.len : Int) = (c.length : Int) := by rw [ha.len]
  rw [hal, wrap_in (n := l - (c.length : Int)) (by omega)]
  refine ⟨fun b => h _ R (Hp.le.refl R) (fun x => by omega), fun b => ?_⟩
  rw [dec_f] at b
  refine loop_upX c.length 0 _ (fun k x _ => (0 ≤ x.1 ∧ x.1 ≤ 1048576) ∧ ∀ j (hj : j < c.length), j < k → SmallF c[j]) (fun k x => x.2 = (k : Int)) rfl (by omega) ⟨⟨by show 0 ≤ l - (c.length : Int); omega, by show l - (c.length : Int) ≤ 1048576; omega⟩, fun j _ hj => by omega⟩ fun Inv k x R1 l1 hk hx hq hn => ?_
  obtain ⟨left, ik⟩ := x
  dsimp only at *
  subst hx
  refine ⟨fun b1 => ?_, fun b1 => h _ R1 l1 fun _ => ?_⟩
  · have b1 : k < c.length := by rw [dec_t] at b1; omega
    obtain ⟨t, e1, e2⟩ := ha.get l1 b1
    refine ⟨t, e1, c_szFn e2 (hs _ (List.getElem_mem b1)) hq.1 fun r R2 l2 hr hr2 => ⟨r, rfl, fun b2 => h _ R2 (l1.trans l2) (fun x => by omega), fun b2 => ?_⟩⟩
    rw [dec_f] at b2
    refine hn _ R2 b1 (wrap_up (by omega)) ⟨⟨by show 0 ≤ r; omega, hr⟩, fun j hj hjk => ?_⟩
    rcases Nat.lt_or_ge j k with z | z
    · exact hq.2 j hj z
    · have : j = k := by omega
      subst this
      exact hr2 (by omega)
  · have b1 : k = c.length := by rw [dec_f] at b1; omega
    subst b1
    refine ⟨by omega, fun f hf => ?_⟩
    obtain ⟨j, hj, rfl⟩ := List.mem_iff_getElem.1 hf
    exact hq.2 j hj hj)
theorem c_szCode {a : Sl} {c : List MFn} {l : Int} {R : Hp} {K : Ending → Hp → Prop} (ha : RCode R a c) (hb : c.length ≤ big) (hs : ∀ f ∈ c, SizedF f) (hl : 0 ≤ l ∧ l ≤ 1048576)
    (h : ∀ (r : Int) R', R.le R' → (0 ≤ r → Small c) → K (.returned (.int .i64 r)) R') : CallsR P0 F_laws_szCode #[.agg #[a.val], .int .i64 l] R K := go_laws_szCode (by
  unfold vc_laws_szCode
  exact c_szFnS ha hb hs hl fun r R1 l1 hr => ⟨r, rfl, fun b => h _ R1 l1 (fun x => by omega), fun b => h _ R1 l1 hr⟩)
theorem set_take {α : Type} {l m : List α} {k : Nat} (hl : l.length = m.length) (hk : k < m.length) (h : l.take k = m.take k) : (l.set k m[k]).take (k + 1) = m.take (k + 1) := by
  have hk' : k < (l.set k m[k]).length := by simp; omega
  rw [List.take_succ_eq_append_getElem hk', List.take_succ_eq_append_getElem hk, List.getElem_set_self, List.take_set_of_le (Nat.le_refl k), h]
theorem c_toIntS {a : Sl} {xs : List Int} {R : Hp} {K : Ending → Hp → Prop} (ha : RSlice R a kI xs) (hs : xs.length ≤ 1048576) (h : ∀ (s : Sl) R', R.le R' → RSlice R' s kI xs → K (.returned s.val) R') : CallsR P0 F_laws_toIntS #[a.val] R K := go_laws_toIntS (by
  unfold vc_laws_toIntS
  rw [ha.len]
  refine ⟨by omega, Int.le_refl _, by omega, ?_⟩
  refine loop_upX xs.length 0 _ (fun k x _ => x.1.length = xs.length ∧ x.1.take k = xs.take k) (fun k x => x.2 = (k : Int)) rfl (by omega) ⟨by simp, rfl⟩ fun Inv k x R1 l1 hk hx hq hn => ?_
  obtain ⟨cur, ik⟩ := x
  dsimp only at *
  subst hx
  obtain ⟨q1, q2⟩ := hq
  refine ⟨fun b1 => ?_, fun b1 s R2 f2 => h s R2 (l1.trans f2.le) ?_⟩
  · have b1 : k < xs.length := by rw [dec_t] at b1; omega
    rw [Int.toNat_natCast]
    refine ⟨_, ha.get l1 b1, by omega, by omega, cur[k]'(by omega), List.getElem?_eq_getElem (by omega), hn _ R1 b1 (wrap_up (by omega)) ⟨by simp [q1], set_take q1 b1 q2⟩⟩
  · have b1 : k = xs.length := by rw [dec_f] at b1; omega
    subst b1
    rw [List.take_length, List.take_of_length_le (by omega)] at q2
    exact q2 ▸ f2.sl)
theorem c_toIns {x : TIns} {R : Hp} {K : Ending → Hp → Prop} (h : K (.returned (.agg #[.int .i64 x.1, .int .i64 x.2.1, .int .i64 x.2.2.1, .string x.2.2.2])) R) : CallsR P0 F_laws_toIns #[.agg #[.int .i64 x.1, .int .i64 x.2.1, .int .i64 x.2.2.1, .string x.2.2.2]] R K := go_laws_toIns h
theorem c_toInsS {a : Sl} {xs : List TIns} {R : Hp} {K : Ending → Hp → Prop} (ha : RSlice R a kIns xs) (hs : xs.length ≤ 1048576) (h : ∀ (s : Sl) R', R.le R' → RSlice R' s kIns xs → K (.returned s.val) R') : CallsR P0 F_laws_toInsS #[a.val] R K := go_laws_toInsS (by
  unfold vc_laws_toInsS
  rw [ha.len]
  refine ⟨by omega, Int.le_refl _, by omega, ?_⟩
  refine loop_upX xs.length 0 _ (fun k x _ => x.1.length = xs.length ∧ x.1.take k = xs.take k) (fun k x => x.2 = (k : Int)) rfl (by omega) ⟨by simp, rfl⟩ fun Inv k x R1 l1 hk hx hq hn => ?_
  obtain ⟨cur, ik⟩ := x
  dsimp only at *
  subst hx
  obtain ⟨q1, q2⟩ := hq
  refine ⟨fun b1 => ?_, fun b1 s R2 f2 => h s R2 (l1.trans f2.le) ?_⟩
  · have b1 : k < xs.length := by rw [dec_t] at b1; omega
    rw [Int.toNat_natCast]
    refine ⟨_, ha.get l1 b1, c_toIns ⟨_, rfl, by omega, by omega, cur[k]'(by omega), List.getElem?_eq_getElem (by omega), hn _ R1 b1 (wrap_up (by omega)) ⟨by simp [q1], set_take q1 b1 q2⟩⟩⟩
  · have b1 : k = xs.length := by rw [dec_f] at b1; omega
    subst b1
    rw [List.take_length, List.take_of_length_le (by omega)] at q2
    exact q2 ▸ f2.sl)
theorem c_toFn {t : TFn} {f : MFn} {R : Hp} {K : Ending → Hp → Prop} (hf : RFn R t f) (hs : SmallF f) (h : ∀ (t' : TFn) R', R.le R' → RFn R' t' f → K (.returned (.agg #[.string t'.1, t'.2.1.val, .int .i64 t'.2.2.1, .int .i64 t'.2.2.2.1, t'.2.2.2.2.val])) R') :
    CallsR P0 F_laws_toFn #[.agg #[.string t.1, t.2.1.val, .int .i64 t.2.2.1, .int .i64 t.2.2.2.1, t.2.2.2.2.val]] R K := go_laws_toFn (by
  unfold vc_laws_toFn
  exact c_toIntS hf.ps hs.ps fun s R1 l1 h1 => ⟨s, rfl, c_toInsS (hf.ins.mono l1) hs.ins fun s2 R2 l2 h2 => ⟨s2, rfl, h (t.1, s, t.2.2.1, t.2.2.2.1, s2) R2 (l1.trans l2) ⟨hf.name, h1.mono l2, hf.res, hf.sl, h2⟩⟩⟩)
theorem c_toFnS {a : Sl} {c : List MFn} {R : Hp} {K : Ending → Hp → Prop} (ha : RCode R a c) (hs : Small c) (h : ∀ (s : Sl) R', R.le R' → RCode R' s c → K (.returned s.val) R') : CallsR P0 F_laws_toFnS #[a.val] R K := go_laws_toFnS (by
  unfold vc_laws_toFnS
  have hal : (a.len : Int) = (c.length : Int) := by rw [ha.len]
  have hs1 := hs.1
  rw [hal]
  refine ⟨by omega, Int.le_refl _, by omega, ?_⟩
  refine loop_upX c.length 0 _ (fun k x R' => x.1.length = c.length ∧ ∀ j (hj : j < c.length), j < k → ∃ t, x.1[j]? = some t ∧ RFn R' t c[j]) (fun k x => x.2 = (k : Int)) rfl (by omega) ⟨by simp, fun j _ hj => by omega⟩ fun Inv k x R1 l1 hk hx hq hn => ?_
  obtain ⟨cur, ik⟩ := x
  dsimp only at *
  subst hx
  obtain ⟨q1, q2⟩ := hq
  refine ⟨fun b1 => ?_, fun b1 s R2 f2 => h s R2 (l1.trans f2.le) ?_⟩
  · have b1 : k < c.length := by rw [dec_t] at b1; omega
    rw [Int.toNat_natCast]
    obtain ⟨t, e1, e2⟩ := ha.get l1 b1
    refine ⟨t, e1, c_toFn e2 (hs.2 _ (List.getElem_mem b1)) fun t' R2 l2 h2 => ⟨t', rfl, by omega, by omega, cur[k]'(by omega), List.getElem?_eq_getElem (by omega), hn _ R2 b1 (wrap_up (by omega)) ⟨by simp [q1], fun j hj hjk => ?_⟩⟩⟩
    dsimp only
    by_cases e : j = k
    · subst e
      exact ⟨t', by rw [List.getElem?_set_self (by omega)], h2⟩
    · obtain ⟨t2, g1, g2⟩ := q2 j hj (by omega)
      exact ⟨t2, by rw [List.getElem?_set_ne (fun x => e x.symm)]; exact g1, g2.mono l2⟩
  · have b1 : k = c.length := by rw [dec_f] at b1; omega
    subst b1
    refine ⟨by rw [← f2.sl.1]; exact q1, fun j f hf => ?_⟩
    obtain ⟨hj, e⟩ := List.getElem?_eq_some_iff.1 hf
    obtain ⟨t2, g1, g2⟩ := q2 j hj hj
    subst e
    exact ⟨t2, f2.sl.2.2 j t2 g1, g2.mono f2.le⟩)
theorem c_toCode {a : Sl} {c : List MFn} {R : Hp} {K : Ending → Hp → Prop} (ha : RCode R a c) (hs : Small c) (h : ∀ (s : Sl) R', R.le R' → RCode R' s c → K (.returned (.agg #[s.val])) R') : CallsR P0 F_laws_toCode #[.agg #[a.val]] R K := go_laws_toCode (by
  unfold vc_laws_toCode
  exact c_toFnS ha hs fun s R1 l1 h1 => ⟨s, rfl, h s R1 l1 h1⟩)
theorem c_eqIntS {a b : Sl} {xs : List Int} {R : Hp} {K : Ending → Hp → Prop} (ha : RSlice R a kI xs) (hb : RSlice R b kI xs) (hl : xs.length ≤ 1048576) (h : ∀ R', R.le R' → K (.returned (.bool true)) R') : CallsR P0 F_laws_eqIntS #[a.val, b.val] R K := go_laws_eqIntS (same_loop ha hb (by omega) fun R' l => kb (h R' l) (by simp))
theorem c_eqIns {x : TIns} {R : Hp} {K : Ending → Hp → Prop} (h : K (.returned (.bool true)) R) : CallsR P0 F_laws_eqIns #[.agg #[.int .i64 x.1, .int .i64 x.2.1, .int .i64 x.2.2.1, .string x.2.2.2], .agg #[.int .i64 x.1, .int .i64 x.2.1, .int .i64 x.2.2.1, .string x.2.2.2]] R K := go_laws_eqIns (by
  unfold vc_laws_eqIns
  refine ⟨fun b => ?_, fun _ => ⟨fun b => ?_, fun _ => ⟨fun b => ?_, fun _ => ⟨fun b => ?_, fun _ => h⟩⟩⟩⟩
  · simp at b
  · simp at b
  · simp at b
  · rw [Bool.not_eq_true', sEq_false] at b; exact absurd rfl b)
theorem c_eqInsS {a b : Sl} {xs : List TIns} {R : Hp} {K : Ending → Hp → Prop} (ha : RSlice R a kIns xs) (hb : RSlice R b kIns xs) (hl : xs.length ≤ 1048576) (h : ∀ R', R.le R' → K (.returned (.bool true)) R') : CallsR P0 F_laws_eqInsS #[a.val, b.val] R K := go_laws_eqInsS (by
  unfold vc_laws_eqInsS
  rw [ha.len, hb.len]
  refine ⟨fun x => by simp at x, fun _ => loop_up xs.length 0 (fun _ _ => True) (by omega) trivial fun Inv k R1 l1 hk _ hn => ⟨fun b1 => ?_, fun b1 => h R1 l1⟩⟩
  have b1 : k < xs.length := by rw [dec_t] at b1; omega
  refine ⟨_, ha.get l1 b1, _, hb.get l1 b1, c_eqIns ⟨true, rfl, fun x => (by cases x), fun _ => ?_⟩⟩
  rw [wrap_up (by omega)]
  exact hn R1 b1 trivial)
theorem c_eqFn {t u : TFn} {f : MFn} {R : Hp} {K : Ending → Hp → Prop} (ht : RFn R t f) (hu : RFn R u f) (hs : SmallF f) (h : ∀ R', R.le R' → K (.returned (.bool true)) R') :
    CallsR P0 F_laws_eqFn #[.agg #[.string t.1, t.2.1.val, .int .i64 t.2.2.1, .int .i64 t.2.2.2.1, t.2.2.2.2.val], .agg #[.string u.1, u.2.1.val, .int .i64 u.2.2.1, .int .i64 u.2.2.2.1, u.2.2.2.2.val]] R K := go_laws_eqFn (by
  unfold vc_laws_eqFn
  refine ⟨fun x => ?_, fun _ => c_eqIntS ht.ps hu.ps hs.ps fun R1 l1 => ⟨true, rfl, fun x => (by cases x), fun _ => ⟨fun x => ?_, fun _ => ⟨fun x => ?_, fun _ => c_eqInsS (ht.ins.mono l1) (hu.ins.mono l1) hs.ins fun R2 l2 => ⟨true, rfl, fun x => (by cases x), fun _ => h R2 (l1.trans l2)⟩⟩⟩⟩⟩
  · rw [Bool.not_eq_true', sEq_false] at x; exact absurd (ht.name.trans hu.name.symm) x
  · rw [bne_iff_ne] at x; exact absurd (ht.res.trans hu.res.symm) x
  · rw [bne_iff_ne] at x; exact absurd (ht.sl.trans hu.sl.symm) x)
theorem c_eqFnS {a b : Sl} {c : List MFn} {R : Hp} {K : Ending → Hp → Prop} (ha : RCode R a c) (hb : RCode R b c) (hs : Small c) (h : ∀ R', R.le R' → K (.returned (.bool true)) R') : CallsR P0 F_laws_eqFnS #[a.val, b.val] R K := go_laws_eqFnS (by
  unfold vc_laws_eqFnS
  have hal : (a.len : Int) = (c.length : Int) := by rw [ha.len]
  have hbl : (b.len : Int) = (c.length : Int) := by rw [hb.len]
  have hs1 := hs.1
  rw [hal, hbl]
  refine ⟨fun x => by simp at x, fun _ => loop_up c.length 0 (fun _ _ => True) (by omega) trivial fun Inv k R1 l1 hk _ hn => ⟨fun b1 => ?_, fun b1 => h R1 l1⟩⟩
  have b1 : k < c.length := by rw [dec_t] at b1; omega
  obtain ⟨t, e1, e2⟩ := ha.get l1 b1
  obtain ⟨u, g1, g2⟩ := hb.get l1 b1
  refine ⟨t, e1, u, g1, c_eqFn e2 g2 (hs.2 _ (List.getElem_mem b1)) fun R2 l2 => ⟨true, rfl, fun x => (by cases x), fun _ => ?_⟩⟩
  rw [wrap_up (by omega)]
  exact hn R2 b1 trivial)
theorem c_eqCode {a b : Sl} {c : List MFn} {R : Hp} {K : Ending → Hp → Prop} (ha : RCode R a c) (hb : RCode R b c) (hs : Small c) (h : ∀ R', R.le R' → K (.returned (.bool true)) R') : CallsR P0 F_laws_eqCode #[.agg #[a.val], .agg #[b.val]] R K := go_laws_eqCode (by
  unfold vc_laws_eqCode
  exact c_eqFnS ha hb hs fun R1 l1 => ⟨true, rfl, fun x => (by cases x), fun _ => h R1 l1⟩)
/-- THE LAW: it answers true. -/
theorem c_FnExactCheckCode {a : Sl} {c : List MFn} {R : Hp} {K : Ending → Hp → Prop} (g : Glob R) (ha : RCode R a c) (hb : c.length ≤ big) (hz : ∀ f ∈ c, SizedF f) (h : ∀ R', R.le R' → K (.returned (.bool true)) R') :
    CallsR P0 F_laws_FnExactCheckCode #[.agg #[a.val]] R K := go_laws_FnExactCheckCode (by
  unfold vc_laws_FnExactCheckCode
  refine c_szCode ha hb hz (by omega) fun r R1 l1 hr => ⟨r, rfl, fun _ => h R1 l1, fun b1 => ?_⟩
  rw [dec_f] at b1
  have hs := hr (by omega)
  refine c_toCode (ha.mono l1) hs fun s1 R2 l2 h1 => ⟨s1, rfl, c_spec_CheckCode h1 fun R3 l3 => ⟨_, _, _, rfl, ?_⟩⟩
  have l03 := l1.trans (l2.trans l3)
  refine c_toCode (ha.mono l03) hs fun s2 R4 l4 h2 => ⟨s2, rfl, c_impl_CheckCode (g.mono (l03.trans l4)) h2 fun R5 l5 => ⟨_, _, _, rfl, fun x => by simp at x, fun _ => ⟨fun x => by simp at x, fun _ => ⟨fun x => by simp at x, fun _ => ?_⟩⟩⟩⟩
  have l05 := l03.trans (l4.trans l5)
  refine c_toCode (ha.mono l05) hs fun s3 R6 l6 h3 => ⟨s3, rfl, c_eqCode ((h2.mono l5).mono l6) h3 hs fun R7 l7 => ⟨true, rfl, fun x => (by cases x), fun _ => h R7 (l05.trans (l6.trans l7))⟩⟩)
end Go.KE
