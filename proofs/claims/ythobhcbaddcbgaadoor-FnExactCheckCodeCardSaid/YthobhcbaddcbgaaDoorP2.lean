/- What the functions of the law answer: part 2. -/
import Derived.Test.YthobhcbaddcbgaaDoorP1
/- Shapes: the plain law. -/
namespace Go.KE
set_option maxRecDepth 100000

/-- No shape, an unfit one, or slots and stack. -/
abbrev Sh := Option (Option (List Int × List Int))
def SLe : List Int → List Int → Prop
  | [], [] => True
  | a :: l, b :: m => (b = 0 ∨ b = a) ∧ SLe l m
  | _, _ => False
def mrg : List Int → List Int → List Int
  | a :: l, b :: m => (if a = b then a else 0) :: mrg l m
  | _, _ => []
def nzc : List Int → Nat
  | [] => 0
  | a :: l => (if a = 0 then 0 else 1) + nzc l
theorem SLe.refl : ∀ (a : List Int), SLe a a
  | [] => trivial
  | a :: l => ⟨.inr rfl, SLe.refl l⟩
theorem SLe.trans : ∀ {a b c : List Int}, SLe a b → SLe b c → SLe a c
  | [], [], [], _, _ => trivial
  | a :: l, b :: m, c :: r, h1, h2 => ⟨by
    rcases h2.1 with h | h
    · exact .inl h
    · rcases h1.1 with h' | h'
      · exact .inl (h.trans h')
      · exact .inr (h.trans h'), h1.2.trans h2.2⟩
  | [], _ :: _, _, h1, _ => h1.elim
  | _ :: _, [], _, h1, _ => h1.elim
  | [], [], _ :: _, _, h2 => h2.elim
  | _ :: _, _ :: _, [], _, h2 => h2.elim
theorem SLe.antisymm : ∀ {a b : List Int}, SLe a b → SLe b a → a = b
  | [], [], _, _ => rfl
  | a :: l, b :: m, h1, h2 => by
    rw [SLe.antisymm h1.2 h2.2]
    have : a = b := by
      rcases h1.1 with h | h
      · rcases h2.1 with h' | h'
        · rw [h, h']
        · exact h'
      · exact h.symm
    rw [this]
  | [], _ :: _, h1, _ => h1.elim
  | _ :: _, [], h1, _ => h1.elim
theorem SLe.len : ∀ {a b : List Int}, SLe a b → a.length = b.length
  | [], [], _ => rfl
  | _ :: _, _ :: _, h => by simp [SLe.len h.2]
  | [], _ :: _, h1 => h1.elim
  | _ :: _, [], h1 => h1.elim
theorem SLe.getD : ∀ {a b : List Int} (k : Nat), SLe a b → b.getD k 0 = 0 ∨ b.getD k 0 = a.getD k 0
  | [], [], _, _ => .inl rfl
  | _ :: _, _ :: _, 0, h => h.1
  | _ :: l, _ :: m, k + 1, h => by simpa using SLe.getD (a := l) (b := m) k h.2
  | [], _ :: _, _, h1 => h1.elim
  | _ :: _, [], _, h1 => h1.elim
theorem SLe.set : ∀ {a b : List Int} (k : Nat) (x : Int), SLe a b → SLe (a.set k x) (b.set k x)
  | [], [], _, _, _ => trivial
  | _ :: _, _ :: _, 0, _, h => ⟨.inr rfl, h.2⟩
  | _ :: l, _ :: m, k + 1, x, h => ⟨h.1, SLe.set k x h.2⟩
  | [], _ :: _, _, _, h1 => h1.elim
  | _ :: _, [], _, _, h1 => h1.elim
theorem mrg_left : ∀ {a b : List Int}, a.length = b.length → SLe a (mrg a b)
  | [], [], _ => trivial
  | a :: l, b :: m, h => ⟨by by_cases e : a = b <;> simp [e], mrg_left (by simpa using h)⟩
theorem mrg_right : ∀ {a b : List Int}, a.length = b.length → SLe b (mrg a b)
  | [], [], _ => trivial
  | a :: l, b :: m, h => ⟨by by_cases e : a = b <;> simp [e], mrg_right (by simpa using h)⟩
theorem mrg_lub : ∀ {a b c : List Int}, SLe a c → SLe b c → SLe (mrg a b) c
  | [], [], [], _, _ => trivial
  | a :: l, b :: m, c :: r, h1, h2 => ⟨by
    by_cases e : a = b
    · rw [if_pos e]; exact h1.1
    · rw [if_neg e]
      rcases h1.1 with h | h
      · exact .inl h
      · rcases h2.1 with h' | h'
        · exact .inl h'
        · exact absurd (h.symm.trans h') e, mrg_lub h1.2 h2.2⟩
  | [], [], _ :: _, h, _ => h.elim
  | [], _ :: _, [], _, h => h.elim
  | [], _ :: _, _ :: _, h, _ => h.elim
  | _ :: _, _, [], h, _ => h.elim
  | _ :: _, [], _ :: _, _, h => h.elim
theorem mrg_len : ∀ {a b : List Int}, a.length = b.length → (mrg a b).length = a.length
  | [], [], _ => rfl
  | a :: l, b :: m, h => by simp [mrg, mrg_len (show l.length = m.length by simpa using h)]
theorem nzc_le : ∀ (a : List Int), nzc a ≤ a.length
  | [] => Nat.le_refl 0
  | a :: l => by
    have := nzc_le l
    simp only [nzc, List.length_cons]
    split <;> omega
theorem nzc_mono : ∀ {a b : List Int}, SLe a b → nzc b ≤ nzc a
  | [], [], _ => Nat.le_refl _
  | a :: l, b :: m, h => by
    have := nzc_mono h.2
    simp only [nzc]
    rcases h.1 with e | e
    · rw [if_pos e]; omega
    · rw [e]; omega
  | [], _ :: _, h => h.elim
  | _ :: _, [], h => h.elim
theorem nzc_lt : ∀ {a b : List Int}, SLe a b → b ≠ a → nzc b < nzc a
  | [], [], _, h => absurd rfl h
  | a :: l, b :: m, h, hne => by
    simp only [nzc]
    have h' := nzc_mono h.2
    by_cases e : b = a
    · have : m ≠ l := fun x => hne (by rw [e, x])
      have := nzc_lt h.2 this
      rw [e]; omega
    · have e0 : b = 0 := by
        rcases h.1 with x | x
        · exact x
        · exact absurd x e
      have ea : ¬ a = 0 := fun x => e (e0.trans x.symm)
      rw [if_pos e0, if_neg ea]; omega
  | [], _ :: _, h, _ => h.elim
  | _ :: _, [], h, _ => h.elim

def Sh.le : Sh → Sh → Prop
  | none, _ => True
  | some _, some none => True
  | some (some p), some (some q) => SLe p.1 q.1 ∧ p.2 = q.2
  | _, _ => False
def Sh.join : Sh → Sh → Sh
  | a, none => a
  | some none, _ => some none
  | none, b => b
  | some (some _), some none => some none
  | some (some p), some (some q) => if p.2 = q.2 then some (some (mrg p.1 q.1, p.2)) else some none
theorem Sh.le_bad : ∀ (a : Sh), a.le (some none)
  | none => trivial
  | some _ => trivial
theorem Sh.le_refl : ∀ (a : Sh), a.le a
  | none => trivial
  | some none => trivial
  | some (some p) => ⟨SLe.refl _, rfl⟩
theorem Sh.le_trans : ∀ {a b c : Sh}, a.le b → b.le c → a.le c
  | none, _, _, _, _ => trivial
  | some _, some _, some none, _, _ => trivial
  | some (some _), some (some _), some (some _), h1, h2 => ⟨h1.1.trans h2.1, h1.2.trans h2.2⟩
  | some _, none, _, h, _ => by cases ‹Option (List Int × List Int)› <;> exact h.elim
  | some _, some none, some (some _), _, h => h.elim
  | some none, some (some _), some (some _), h, _ => h.elim
  | some _, some none, none, _, h => h.elim
  | some _, some (some _), none, _, h => h.elim
theorem Sh.le_antisymm : ∀ {a b : Sh}, a.le b → b.le a → a = b
  | none, none, _, _ => rfl
  | some none, some none, _, _ => rfl
  | some (some p), some (some q), h1, h2 => by
    have e1 := SLe.antisymm h1.1 h2.1
    have e2 := h1.2
    obtain ⟨p1, p2⟩ := p; obtain ⟨q1, q2⟩ := q
    simp only at e1 e2
    rw [e1, e2]
  | none, some none, _, h => h.elim
  | none, some (some _), _, h => h.elim
  | some none, none, h, _ => h.elim
  | some (some _), none, h, _ => h.elim
  | some none, some (some _), h, _ => h.elim
  | some (some _), some none, _, h => h.elim
/-- Shapes of a function with so many slots. -/
def Sh.Good (S : Nat) : Sh → Prop
  | some (some p) => p.1.length = S ∧ (∀ x ∈ p.1, 0 ≤ x ∧ x ≤ 10) ∧ (∀ x ∈ p.2, 1 ≤ x ∧ x ≤ 10) ∧ p.2.length ≤ 600
  | _ => True
theorem Sh.join_left {S : Nat} : ∀ {a b : Sh}, a.Good S → b.Good S → a.le (a.join b)
  | none, _, _, _ => trivial
  | some none, none, _, _ => trivial
  | some (some _), none, _, _ => ⟨SLe.refl _, rfl⟩
  | some none, some _, _, _ => trivial
  | some (some _), some none, _, _ => trivial
  | some (some p), some (some q), h1, h2 => by
    simp only [Sh.join]
    by_cases e : p.2 = q.2
    · rw [if_pos e]; exact ⟨mrg_left (h1.1.trans h2.1.symm), rfl⟩
    · rw [if_neg e]; trivial
theorem Sh.join_right {S : Nat} : ∀ {a b : Sh}, a.Good S → b.Good S → b.le (a.join b)
  | _, none, _, _ => trivial
  | none, some b, _, _ => Sh.le_refl _
  | some none, some _, _, _ => trivial
  | some (some _), some none, _, _ => trivial
  | some (some p), some (some q), h1, h2 => by
    simp only [Sh.join]
    by_cases e : p.2 = q.2
    · rw [if_pos e]; exact ⟨mrg_right (h1.1.trans h2.1.symm), e.symm⟩
    · rw [if_neg e]; trivial
theorem Sh.join_lub : ∀ {a b c : Sh}, a.le c → b.le c → (a.join b).le c
  | _, none, _, h, _ => by simpa [Sh.join] using h
  | none, some b, _, _, h => h
  | some none, some _, _, h, _ => h
  | some (some _), some none, _, _, h => h
  | some (some p), some (some q), some (some r), h1, h2 => by
    have e : p.2 = q.2 := h1.2.trans h2.2.symm
    simp only [Sh.join, if_pos e]
    exact ⟨mrg_lub h1.1 h2.1, h1.2⟩
  | some (some p), some (some q), some none, _, _ => Sh.le_bad _
  | some (some p), some (some q), none, h, _ => h.elim
theorem mrg_rng : ∀ {a b : List Int}, (∀ x ∈ a, 0 ≤ x ∧ x ≤ 10) → ∀ x ∈ mrg a b, 0 ≤ x ∧ x ≤ 10
  | a :: l, b :: m, h, x, hx => by
    simp only [mrg, List.mem_cons] at hx
    rcases hx with rfl | hx
    · split
      · exact h a (by simp)
      · omega
    · exact mrg_rng (fun y hy => h y (by simp [hy])) x hx
  | [], _, _, x, hx => by simp [mrg] at hx
  | _ :: _, [], _, x, hx => by simp [mrg] at hx
theorem Sh.Good.join {S : Nat} : ∀ {a b : Sh}, a.Good S → b.Good S → (a.join b).Good S
  | _, none, h, _ => by simpa [Sh.join] using h
  | none, some b, _, h => h
  | some none, some _, _, _ => trivial
  | some (some _), some none, _, _ => trivial
  | some (some p), some (some q), h1, h2 => by
    simp only [Sh.join]
    by_cases e : p.2 = q.2
    · rw [if_pos e]; exact ⟨(mrg_len (h1.1.trans h2.1.symm)).trans h1.1, mrg_rng h1.2.1, h1.2.2⟩
    · rw [if_neg e]; trivial
/-- How far down a shape may still go. -/
def Sh.ht (S : Nat) : Sh → Nat
  | none => S + 2
  | some none => 0
  | some (some p) => 1 + nzc p.1
theorem Sh.ht_lt {S : Nat} : ∀ {a b : Sh}, a.Good S → b.Good S → a.le b → b ≠ a → b.ht S < a.ht S
  | none, none, _, _, _, h => absurd rfl h
  | none, some none, _, _, _, _ => by simp [Sh.ht]
  | none, some (some p), _, h, _, _ => by
    have := nzc_le p.1
    have e : p.1.length = S := h.1
    simp only [Sh.ht]; omega
  | some none, some none, _, _, _, h => absurd rfl h
  | some (some _), some none, _, _, _, _ => by simp only [Sh.ht]; omega
  | some (some p), some (some q), _, _, h, hne => by
    have : q.1 ≠ p.1 := fun x => hne (by
      obtain ⟨p1, p2⟩ := p; obtain ⟨q1, q2⟩ := q
      have := h.2
      simp only at this x
      rw [this, x])
    have := nzc_lt h.1 this
    simp only [Sh.ht]; omega
  | some none, none, _, _, h, _ => h.elim
  | some (some _), none, _, _, h, _ => h.elim
  | some none, some (some _), _, _, h, _ => h.elim

/-- The whole of a function's shapes: a flow is what goes out of each place, and where to. -/
structure Flow (S n : Nat) where
  first : Sh
  out : Nat → Sh → Sh
  goes : Nat → List Nat
  goodF : first.Good S
  good : ∀ i a, i < n → a.Good S → (out i a).Good S
  mono : ∀ i a b, i < n → a.Good S → b.Good S → a.le b → (out i a).le (out i b)
def Flow.Cl {S n : Nat} (F : Flow S n) (v : Nat → Sh) : Prop := F.first.le (v 0) ∧ ∀ i, i < n → ∀ j ∈ F.goes i, j < n → (F.out i (v i)).le (v j)
def GoodV (S n : Nat) (v : Nat → Sh) : Prop := ∀ i, i < n → (v i).Good S
def Flow.Low {S n : Nat} (F : Flow S n) (v : Nat → Sh) : Prop := ∀ u, GoodV S n u → F.Cl u → ∀ i, i < n → (v i).le (u i)
theorem Flow.uniq {S n : Nat} (F : Flow S n) {v w : Nat → Sh} (gv : GoodV S n v) (gw : GoodV S n w) (cv : F.Cl v) (cw : F.Cl w) (lv : F.Low v) (lw : F.Low w) : ∀ i, i < n → v i = w i :=
  fun i hi => Sh.le_antisymm (lv w gw cw i hi) (lw v gv cv i hi)
def upd (v : Nat → Sh) (j : Nat) (x : Sh) : Nat → Sh := fun i => if i = j then x else v i
theorem upd_same (v : Nat → Sh) (j : Nat) : upd v j (v j) = v := by
  funext i; unfold upd
  by_cases e : i = j
  · rw [if_pos e, e]
  · rw [if_neg e]
theorem Flow.Low.upd {S n : Nat} {F : Flow S n} {v : Nat → Sh} (gv : GoodV S n v) (lv : F.Low v) {i j : Nat} (hi : i < n) (hj : j ∈ F.goes i) (hjn : j < n) {a : Sh} (ha : a.Good S) (hav : ∀ u, GoodV S n u → F.Cl u → a.le (u i)) : F.Low (upd v j ((v j).join (F.out i a))) := fun u gu cu k hk => by
  unfold Go.KE.upd
  by_cases e : k = j
  · rw [if_pos e, e]
    exact Sh.join_lub (lv u gu cu j hjn) (Sh.le_trans (F.mono i a (u i) hi ha (gu i hi) (hav u gu cu)) (cu.2 i hi j hj hjn))
  · rw [if_neg e]; exact lv u gu cu k hk
theorem GoodV.upd {S n : Nat} {v : Nat → Sh} (gv : GoodV S n v) {j : Nat} {x : Sh} (hx : x.Good S) : GoodV S n (upd v j x) := fun i hi => by
  unfold Go.KE.upd
  by_cases e : i = j
  · rw [if_pos e]; exact hx
  · rw [if_neg e]; exact gv i hi
def hsum (S : Nat) (v : Nat → Sh) : Nat → Nat
  | 0 => 0
  | n + 1 => hsum S v n + (v n).ht S
theorem hsum_congr {S : Nat} {v w : Nat → Sh} : ∀ {n : Nat}, (∀ i, i < n → v i = w i) → hsum S v n = hsum S w n
  | 0, _ => rfl
  | n + 1, h => by
    have := hsum_congr (S := S) (v := v) (w := w) (n := n) fun i hi => h i (by omega)
    simp only [hsum, this, h n (by omega)]
theorem hsum_upd {S : Nat} {v : Nat → Sh} {j : Nat} {x : Sh} : ∀ {n : Nat}, j < n → hsum S (upd v j x) n + (v j).ht S = hsum S v n + x.ht S
  | n + 1, h => by
    simp only [hsum]
    by_cases e : j = n
    · subst e
      have : hsum S (upd v j x) j = hsum S v j := hsum_congr fun i hi => by unfold upd; rw [if_neg (by omega)]
      rw [this]
      have : upd v j x j = x := by unfold upd; rw [if_pos rfl]
      rw [this]; omega
    · have := hsum_upd (S := S) (v := v) (j := j) (x := x) (n := n) (by omega)
      have e2 : upd v j x n = v n := by unfold upd; rw [if_neg (fun y => e y.symm)]
      rw [e2]; omega
theorem hsum_bound {S : Nat} {v : Nat → Sh} : ∀ {n : Nat}, GoodV S n v → hsum S v n ≤ n * (S + 2)
  | 0, _ => by simp [hsum]
  | n + 1, h => by
    have h1 := hsum_bound (S := S) (v := v) (n := n) fun i hi => h i (by omega)
    have h2 : (v n).ht S ≤ S + 2 := by
      have := h n (by omega)
      match v n, this with
      | none, _ => exact Nat.le_refl _
      | some none, _ => simp [Sh.ht]
      | some (some p), this =>
        have e : p.1.length = S := this.1
        have := nzc_le p.1
        simp only [Sh.ht]; omega
    simp only [hsum, Nat.succ_mul]; omega
end Go.KE

/- What an instruction does with a shape. -/
namespace Go.KE
set_option maxRecDepth 100000

def stAt (st : List Int) (k : Nat) : Int := if k < st.length then st.getD (st.length - (k + 1)) 0 else 0
def builtK (a : Int) : Nat := (bt a).2.toNat
def tp1 (t : Int) (k : Nat) : Option (Nat × List Int) := if t = 0 then none else some (k, [t])
/-- What an instruction other than a load takes and puts. -/
def mGiv (c : List MFn) (res : Int) (x : TIns) (st : List Int) : Option (Nat × List Int) :=
  if x.1 = 1 then some (0, [x.2.1]) else if x.1 = 3 ∨ x.1 = 4 then (if 0 < st.length then some (1, []) else none)
  else if x.1 = 5 then tp1 (mUn x.2.1 (stAt st 0)) 1 else if x.1 = 6 then tp1 (mBin x.2.1 (stAt st 1) (stAt st 0)) 2 else if x.1 = 7 then (if mInt (stAt st 0) then some (1, [x.2.1]) else none)
  else if x.1 = 8 then (if builtK x.2.1 ≤ st.length then tp1 (mBuilt x.2.1 (st.drop (st.length - builtK x.2.1))) (builtK x.2.1) else none)
  else if x.1 = 9 then match c[x.2.1.toNat]? with
    | none => none
    | some g => if g.params.length ≤ st.length ∧ st.drop (st.length - g.params.length) = g.params then some (g.params.length, if g.result = 0 then [] else [g.result]) else none
  else if x.1 = 11 then (if stAt st 0 = 1 then some (1, []) else none)
  else if x.1 = 12 then (if x.2.1 = 0 then some (0, []) else if 0 < st.length ∧ stAt st 0 = res then some (1, []) else none)
  else if x.1 = 13 ∨ x.1 = 15 then (if stAt st 0 = 2 then some (1, []) else none)
  else if x.1 = 14 then (if stAt st 0 = 2 ∧ stAt st 1 = 2 then some (2, []) else none)
  else some (0, [])
def mGives (c : List MFn) (res : Int) (x : TIns) (sl st : List Int) : Option (Nat × List Int) := if x.1 = 2 then tp1 (sl.getD x.2.1.toNat 0) 0 else mGiv c res x st
def mAfter (nins : Nat) (x : TIns) (i : Nat) (p : List Int × List Int) (r : Nat × List Int) : Option (List Int × List Int) :=
  if r.1 ≤ p.2.length ∧ (∀ t ∈ mGoes x i, t < (nins : Int)) ∧ (p.2.take (p.2.length - r.1) ++ r.2).length ≤ 600 then
    some (if x.1 = 3 then p.1.set x.2.1.toNat (stAt p.2 0) else p.1, p.2.take (p.2.length - r.1) ++ r.2) else none
/-- The shape behind an instruction. -/
def mStep (c : List MFn) (f : MFn) (x : TIns) (i : Nat) (p : List Int × List Int) : Option (List Int × List Int) := (mGives c f.result x p.1 p.2).bind (mAfter f.ins.length x i p)
def mOut (c : List MFn) (f : MFn) (i : Nat) : Sh → Sh
  | none => none
  | some none => some none
  | some (some p) => match f.ins[i]? with
    | none => some none
    | some x => some (mStep c f x i p)
theorem mStep_mono {c : List MFn} {f : MFn} {x : TIns} {i : Nat} {p q : List Int × List Int} (h1 : SLe p.1 q.1) (h2 : p.2 = q.2) : Sh.le (some (mStep c f x i p)) (some (mStep c f x i q)) := by
  obtain ⟨p1, st⟩ := p; obtain ⟨q1, st'⟩ := q
  simp only at h1 h2
  subst h2
  have hA : ∀ r, Sh.le (some (mAfter f.ins.length x i (p1, st) r)) (some (mAfter f.ins.length x i (q1, st) r)) := fun r => by
    unfold mAfter
    simp only
    split
    · refine ⟨?_, rfl⟩
      split
      · exact h1.set _ _
      · exact h1
    · exact Sh.le_refl _
  unfold mStep mGives
  by_cases e : x.1 = 2
  · simp only [if_pos e, tp1]
    rcases h1.getD x.2.1.toNat with h | h
    · rw [if_pos h]; exact Sh.le_bad _
    · rw [h]
      by_cases e2 : p1.getD x.2.1.toNat 0 = 0
      · rw [if_pos e2]; exact Sh.le_bad _
      · rw [if_neg e2]; exact hA _
  · simp only [if_neg e]
    cases mGiv c f.result x st with
    | none => exact Sh.le_bad _
    | some r => exact hA r
theorem mOut_mono {c : List MFn} {f : MFn} {i : Nat} : ∀ {a b : Sh}, a.le b → (mOut c f i a).le (mOut c f i b)
  | none, _, _ => trivial
  | some _, some none, _ => Sh.le_bad _
  | some (some p), some (some q), h => by
    simp only [mOut]
    cases f.ins[i]? with
    | none => trivial
    | some x => exact mStep_mono h.1 h.2
  | some none, none, h => h.elim
  | some (some _), none, h => h.elim
  | some none, some (some _), h => h.elim
/-- A code that is right but for shapes. -/
structure CodeOk (c : List MFn) : Prop where
  len : 1 ≤ c.length ∧ c.length ≤ 60
  head : ∀ f ∈ c, f.params.length ≤ 8 ∧ (0 ≤ f.result ∧ f.result ≤ 10) ∧ (∀ p ∈ f.params, 1 ≤ p ∧ p ≤ 10) ∧ (f.params.length ≤ f.slots ∧ f.slots ≤ 200) ∧ (1 ≤ f.ins.length ∧ f.ins.length ≤ 50000)
  ins : ∀ f ∈ c, ∀ x ∈ f.ins, mInsOk c.length f.result f.slots f.ins.length x = true
theorem insA {nf res slots nins : Int} {x : TIns} (h : mInsOk nf res slots nins x = true) (h1 : x.1 ≠ 1) :
    ((x.1 = 2 ∨ x.1 = 3) → 0 ≤ x.2.1 ∧ x.2.1 ≤ IntKind.wrap .i64 (slots - 1)) ∧ (x.1 = 5 → 1 ≤ x.2.1 ∧ x.2.1 ≤ 3) ∧ (x.1 = 6 → 3 ≤ x.2.1 ∧ x.2.1 ≤ 18) ∧ (x.1 = 7 → 3 ≤ x.2.1 ∧ x.2.1 ≤ 10) ∧ (x.1 = 8 → 1 ≤ x.2.1 ∧ x.2.1 ≤ 12) ∧
    (x.1 = 9 → 0 ≤ x.2.1 ∧ x.2.1 ≤ IntKind.wrap .i64 (nf - 1)) ∧ ((x.1 = 10 ∨ x.1 = 11) → 0 ≤ x.2.1 ∧ x.2.1 ≤ nins) ∧ (x.1 = 12 → x.2.1 = 1 ∧ res ≠ 0 ∨ x.2.1 = 0 ∧ res = 0) := by
  unfold mInsOk at h
  rw [if_neg h1] at h
  split at h
  · cases h
  split at h
  · cases h
  split at h
  · simp [mIn] at h
    refine ⟨fun _ => h, ?_, ?_, ?_, ?_, ?_, ?_, ?_⟩ <;> intro <;> omega
  split at h
  · simp [mIn] at h
    refine ⟨?_, fun _ => h, ?_, ?_, ?_, ?_, ?_, ?_⟩ <;> intro <;> omega
  split at h
  · simp [mIn] at h
    refine ⟨?_, ?_, fun _ => h, ?_, ?_, ?_, ?_, ?_⟩ <;> intro <;> omega
  split at h
  · simp [mIn] at h
    refine ⟨?_, ?_, ?_, fun _ => h, ?_, ?_, ?_, ?_⟩ <;> intro <;> omega
  split at h
  · simp [mIn] at h
    refine ⟨?_, ?_, ?_, ?_, fun _ => h, ?_, ?_, ?_⟩ <;> intro <;> omega
  split at h
  · simp [mIn] at h
    refine ⟨?_, ?_, ?_, ?_, ?_, fun _ => h, ?_, ?_⟩ <;> intro <;> omega
  split at h
  · simp [mIn] at h
    refine ⟨?_, ?_, ?_, ?_, ?_, ?_, fun _ => h, ?_⟩ <;> intro <;> omega
  split at h
  · rw [dec_t] at h
    refine ⟨?_, ?_, ?_, ?_, ?_, ?_, ?_, fun _ => h⟩ <;> intro <;> omega
  · refine ⟨?_, ?_, ?_, ?_, ?_, ?_, ?_, ?_⟩ <;> intro <;> omega
theorem validV_t {t n : Int} {s : ByteArray} (h : validV t n s = true) : 1 ≤ t ∧ t ≤ 10 := by
  unfold validV at h
  split at h
  · omega
  · split at h
    · omega
    · simp [mInt] at h; omega
theorem mWants_t (a : Int) : 1 ≤ (mWants a).2 ∧ (mWants a).2 ≤ 10 := by unfold mWants; (repeat' split) <;> decide
theorem mUn_t {k t : Int} : mUn k t = 0 ∨ mUn k t = t := by unfold mUn; (repeat' split) <;> simp_all
theorem mBin_t {k s t : Int} (h : 0 ≤ s ∧ s ≤ 10) : 0 ≤ mBin k s t ∧ mBin k s t ≤ 10 := by unfold mBin; (repeat' split) <;> omega
theorem stAt_rng {st : List Int} (h : ∀ x ∈ st, 1 ≤ x ∧ x ≤ 10) (k : Nat) : 0 ≤ stAt st k ∧ stAt st k ≤ 10 := by
  unfold stAt
  split
  · rename_i hk
    have := h _ (List.getElem_mem (show st.length - (k + 1) < st.length by omega))
    simp [List.getD, List.getElem?_eq_getElem (show st.length - (k + 1) < st.length by omega)]; omega
  · omega
theorem stAt_pos {st : List Int} {k : Nat} (h : stAt st k ≠ 0) : k < st.length := by
  unfold stAt at h
  split at h
  · assumption
  · exact absurd rfl h
theorem mGives_rng {c : List MFn} {f : MFn} {x : TIns} {sl st : List Int} (hc : CodeOk c) (hf : f ∈ c) (hx : x ∈ f.ins) (h1 : ∀ y ∈ sl, 0 ≤ y ∧ y ≤ 10) (h2 : ∀ y ∈ st, 1 ≤ y ∧ y ≤ 10) {r : Nat × List Int} (e : mGives c f.result x sl st = some r) : ∀ y ∈ r.2, 1 ≤ y ∧ y ≤ 10 := by
  have hi := hc.ins f hf x hx
  have t1 : ∀ {t : Int} {k : Nat}, 0 ≤ t ∧ t ≤ 10 → tp1 t k = some r → ∀ y ∈ r.2, 1 ≤ y ∧ y ≤ 10 := fun {t k} ht he y hy => by
    unfold tp1 at he
    split at he
    · cases he
    · cases he
      simp at hy; subst hy; omega
  have nil : ∀ {k : Nat}, some (k, ([] : List Int)) = some r → ∀ y ∈ r.2, 1 ≤ y ∧ y ≤ 10 := fun he y hy => by cases he; simp at hy
  have one : ∀ {k : Nat} {t : Int}, 1 ≤ t ∧ t ≤ 10 → some (k, [t]) = some r → ∀ y ∈ r.2, 1 ≤ y ∧ y ≤ 10 := fun {k t} ht he y hy => by cases he; simp at hy; omega
  unfold mGives at e
  split at e
  · refine t1 ?_ e
    rename_i hh
    by_cases hk : x.2.1.toNat < sl.length
    · have := h1 _ (List.getElem_mem hk)
      simpa [List.getD, List.getElem?_eq_getElem hk] using this
    · simp [List.getD, List.getElem?_eq_none (by omega : sl.length ≤ x.2.1.toNat)]
  · unfold mGiv at e
    have s0 := stAt_rng h2 0
    have s1 := stAt_rng h2 1
    by_cases hh : x.1 = 1
    · rw [if_pos hh] at e
      unfold mInsOk at hi
      rw [if_pos hh] at hi
      exact one (validV_t hi) e
    rw [if_neg hh] at e
    have hne := hh
    by_cases hh : x.1 = 3 ∨ x.1 = 4
    · rw [if_pos hh] at e
      split at e
      · exact nil e
      · cases e
    rw [if_neg hh] at e
    by_cases hh : x.1 = 5
    · rw [if_pos hh] at e
      refine t1 ?_ e
      rcases mUn_t (k := x.2.1) (t := stAt st 0) with h | h <;> rw [h] <;> omega
    rw [if_neg hh] at e
    by_cases hh : x.1 = 6
    · rw [if_pos hh] at e
      exact t1 (mBin_t s1) e
    rw [if_neg hh] at e
    by_cases hh : x.1 = 7
    · rw [if_pos hh] at e
      split at e
      · refine one ?_ e
        have := (insA hi hne).2.2.2.1 hh
        omega
      · cases e
    rw [if_neg hh] at e
    by_cases hh : x.1 = 8
    · rw [if_pos hh] at e
      split at e
      · refine t1 ?_ e
        unfold mBuilt
        split
        · have := mWants_t x.2.1; omega
        · omega
      · cases e
    rw [if_neg hh] at e
    by_cases hh : x.1 = 9
    · rw [if_pos hh] at e
      cases hg : c[x.2.1.toNat]? with
      | none => rw [hg] at e; cases e
      | some g =>
        rw [hg] at e
        simp only at e
        split at e
        · split at e
          · exact nil e
          · have := (hc.head g (List.mem_of_getElem? hg)).2.1
            exact one (by omega) e
        · cases e
    rw [if_neg hh] at e
    by_cases hh : x.1 = 11
    · rw [if_pos hh] at e
      split at e
      · exact nil e
      · cases e
    rw [if_neg hh] at e
    by_cases hh : x.1 = 12
    · rw [if_pos hh] at e
      split at e
      · exact nil e
      · split at e
        · exact nil e
        · cases e
    rw [if_neg hh] at e
    by_cases hh : x.1 = 13 ∨ x.1 = 15
    · rw [if_pos hh] at e
      split at e
      · exact nil e
      · cases e
    rw [if_neg hh] at e
    by_cases hh : x.1 = 14
    · rw [if_pos hh] at e
      split at e
      · exact nil e
      · cases e
    rw [if_neg hh] at e
    exact nil e
theorem mOut_good {c : List MFn} {f : MFn} (hc : CodeOk c) (hf : f ∈ c) {S i : Nat} : ∀ {a : Sh}, a.Good S → (mOut c f i a).Good S
  | none, _ => trivial
  | some none, _ => trivial
  | some (some p), h => by
    simp only [mOut]
    cases e : f.ins[i]? with
    | none => trivial
    | some x =>
      show Sh.Good S (some (mStep c f x i p))
      unfold mStep
      cases e2 : mGives c f.result x p.1 p.2 with
      | none => trivial
      | some r =>
        have hr := mGives_rng hc hf (List.mem_of_getElem? e) h.2.1 h.2.2.1 e2
        show Sh.Good S (some (mAfter f.ins.length x i p r))
        unfold mAfter
        split
        · rename_i hh
          refine ⟨?_, ?_, ?_, hh.2.2⟩
          · simp only; split
            · rw [List.length_set]; exact h.1
            · exact h.1
          · simp only; split
            · intro y hy
              rcases List.mem_or_eq_of_mem_set hy with h' | h'
              · exact h.2.1 y h'
              · rw [h']; exact stAt_rng h.2.2.1 0
            · exact h.2.1
          · intro y hy
            simp only [List.mem_append] at hy
            rcases hy with h' | h'
            · exact h.2.2.1 y (List.mem_of_mem_take h')
            · exact hr y h'
        · trivial
def mFirst (f : MFn) : Sh := some (some (f.params ++ List.replicate (f.slots.toNat - f.params.length) 0, []))
theorem mFirst_good {c : List MFn} {f : MFn} (hc : CodeOk c) (hf : f ∈ c) : (mFirst f).Good f.slots.toNat := by
  have h := hc.head f hf
  refine ⟨?_, ?_, ?_, ?_⟩
  · simp; omega
  · intro y hy
    simp only [List.mem_append, List.mem_replicate] at hy
    rcases hy with h' | h'
    · have := h.2.2.1 y h'; omega
    · omega
  · intro y hy; simp at hy
  · simp
def insGoes (f : MFn) (i : Nat) : List Nat := match f.ins[i]? with
  | none => []
  | some x => (mGoes x i).map Int.toNat
/-- The flow of a function. -/
def flow {c : List MFn} (hc : CodeOk c) {f : MFn} (hf : f ∈ c) : Flow f.slots.toNat f.ins.length where
  first := mFirst f
  out := mOut c f
  goes := insGoes f
  goodF := mFirst_good hc hf
  good := fun _ _ _ h => mOut_good hc hf h
  mono := fun _ _ _ _ _ _ h => mOut_mono h
end Go.KE

/- What an instruction leaves: the specification. -/
namespace Go.KE
set_option maxRecDepth 100000

/-- A shape in memory. -/
def RSh (R : Hp) (t : Int × Sl × Sl) : Sh → Prop
  | none => t.1 = 0
  | some none => t.1 = 2
  | some (some p) => t.1 = 1 ∧ RSlice R t.2.1 kI p.1 ∧ RSlice R t.2.2 kI p.2
theorem RSh.mono {R R' : Hp} {t : Int × Sl × Sl} : ∀ {a : Sh}, RSh R t a → R.le R' → RSh R' t a
  | none, h, _ => h
  | some none, h, _ => h
  | some (some _), h, l => ⟨h.1, h.2.1.mono l, h.2.2.mono l⟩
theorem RSlice.sub {R : Hp} {s : Sl} {xs : List Int} (h : RSlice R s kI xs) {lo hi : Nat} (h1 : lo ≤ hi) (h2 : hi ≤ xs.length) : RSlice R (s.from lo hi 1) kI ((xs.take hi).drop lo) := by
  have hl := h.1
  have hc := h.2.1
  refine ⟨?_, ?_, ?_⟩
  · simp [Sl.from]; omega
  · simp [Sl.from]; omega
  · intro i x e
    have hi' : i < hi - lo := by
      have := (List.getElem?_eq_some_iff.1 e).1
      simp at this; omega
    rw [List.getElem?_drop, List.getElem?_take, if_pos (by omega)] at e
    obtain ⟨a, a1, a2, a3, a4, a5⟩ := h.2.2 (lo + i) x e
    have hne : ¬ s.cap = lo := by omega
    refine ⟨a.add (lo * 1), ?_, ?_, by omega, ?_, ?_⟩
    · simp [Sl.from, hne, a1]
    · unfold Addr.add
      split
      · exact a2
      · rfl
    · simp [Sl.from]; omega
    · have : (a.add (lo * 1)).block = a.block ∧ (a.add (lo * 1)).off = a.off + lo := by
        unfold Addr.add
        split
        · exact ⟨rfl, by omega⟩
        · exact ⟨rfl, by simp⟩
      rw [this.1, this.2]
      have e1 : a.off + ((lo + i : Nat) : Int).toNat * [Kd.int .i64].length = a.off + lo + ((i : Nat) : Int).toNat * [Kd.int .i64].length := by
        simp; omega
      rw [e1] at a5
      exact a5
theorem bt_rng (a : Int) : 0 ≤ (bt a).2 ∧ (bt a).2 ≤ 3 := by
  unfold bt
  split
  · match e : a.toNat with
    | 0 | 1 | 2 | 3 | 4 | 5 | 6 | 7 | 8 | 9 | 10 | 11 | 12 => exact ⟨by decide, by decide⟩
    | n + 13 => exact ⟨by simp [btL, List.getD], by simp [btL, List.getD]⟩
  · exact ⟨by decide, by decide⟩
theorem getD_at {l : List Int} {k : Nat} (h : k < l.length) : l.getD k 0 = l[k] := by simp [List.getD, List.getElem?_eq_getElem h]
theorem gives_tail {c : List MFn} {a0_0 a3_1 a3_2 : Sl} {a1_2 a2_0 a2_1 a2_2 : Int} {a2_3 : ByteArray} {f : MFn} {sl st : List Int} {top below : Int} {R : Hp} {K : Ending → Hp → Prop}
    (hc : CodeOk c) (hf : f ∈ c) (hx : (a2_0, a2_1, a2_2, a2_3) ∈ f.ins) (hcs : RCode R a0_0 c) (hr : a1_2 = f.result) (hsl : RSlice R a3_1 kI sl) (hst : RSlice R a3_2 kI st) (hln : sl.length = f.slots.toNat) (hstl : st.length ≤ 600) (ht : top = stAt st 0) (hb : below = stAt st 1)
    (h1 : ∀ r, mGives c f.result (a2_0, a2_1, a2_2, a2_3) sl st = some r → ∀ (s : Sl) (R' : Hp), R.le R' → RSlice R' s kI r.2 → K (.returned (.tuple #[.int .i64 r.1, s.val, .bool true])) R')
    (h0 : mGives c f.result (a2_0, a2_1, a2_2, a2_3) sl st = none → ∀ (k : Int) (s : Sl) (R' : Hp), R.le R' → K (.returned (.tuple #[.int .i64 k, s.val, .bool false])) R') :
    ((((a2_0 == (1 : Int)) = true) → (∀ s : Sl, (∀ R' : Hp, ((Frz R R' s [Kd.int IntKind.i64] [a2_1]) → (K (Ending.returned (Value.tuple ⟨[Value.int IntKind.i64 (0 : Int), Value.slice s.a s.len s.cap, Value.bool true]⟩)) R'))))) ∧ (((a2_0 == (1 : Int)) = false) → ((((a2_0 == (2 : Int)) = true) → (∃ y_2 : Int, ((RElem R a3_1 [Kd.int IntKind.i64] a2_1 y_2) ∧ (∃ y_3 : Int, ((RElem R a3_1 [Kd.int IntKind.i64] a2_1 y_3) ∧ (∀ s : Sl, (∀ R' : Hp, ((Frz R R' s [Kd.int IntKind.i64] [y_2]) → (K (Ending.returned (Value.tuple ⟨[Value.int IntKind.i64 (0 : Int), Value.slice s.a s.len s.cap, Value.bool (y_3 != (0 : Int))]⟩)) R'))))))))) ∧ (((a2_0 == (2 : Int)) = false) → ((((a2_0 == (3 : Int)) = true) → (∀ s : Sl, (∀ R' : Hp, ((Frz R R' s [Kd.int IntKind.i64] []) → (K (Ending.returned (Value.tuple ⟨[Value.int IntKind.i64 (1 : Int), Value.slice s.a s.len s.cap, Value.bool (decide ((↑a3_2.len : Int) > (0 : Int)))]⟩)) R'))))) ∧ (((a2_0 == (3 : Int)) = false) → ((((a2_0 == (4 : Int)) = true) → (∀ s : Sl, (∀ R' : Hp, ((Frz R R' s [Kd.int IntKind.i64] []) → (K (Ending.returned (Value.tuple ⟨[Value.int IntKind.i64 (1 : Int), Value.slice s.a s.len s.cap, Value.bool (decide ((↑a3_2.len : Int) > (0 : Int)))]⟩)) R'))))) ∧ (((a2_0 == (4 : Int)) = false) → ((((a2_0 == (5 : Int)) = true) → (CallsR P0 (68 : Nat) ⟨[Value.int IntKind.i64 a2_1, Value.int IntKind.i64 top]⟩ R fun e R' => (∃ x : Int, ((e = Ending.returned (Value.int IntKind.i64 x)) ∧ (∀ s : Sl, (∀ R'_1 : Hp, ((Frz R' R'_1 s [Kd.int IntKind.i64] [x]) → (K (Ending.returned (Value.tuple ⟨[Value.int IntKind.i64 (1 : Int), Value.slice s.a s.len s.cap, Value.bool (x != (0 : Int))]⟩)) R'_1)))))))) ∧ (((a2_0 == (5 : Int)) = false) → ((((a2_0 == (6 : Int)) = true) → (CallsR P0 (69 : Nat) ⟨[Value.int IntKind.i64 a2_1, Value.int IntKind.i64 below, Value.int IntKind.i64 top]⟩ R fun e R' => (∃ x : Int, ((e = Ending.returned (Value.int IntKind.i64 x)) ∧ (∀ s : Sl, (∀ R'_1 : Hp, ((Frz R' R'_1 s [Kd.int IntKind.i64] [x]) → (K (Ending.returned (Value.tuple ⟨[Value.int IntKind.i64 (2 : Int), Value.slice s.a s.len s.cap, Value.bool (x != (0 : Int))]⟩)) R'_1)))))))) ∧ (((a2_0 == (6 : Int)) = false) → ((((a2_0 == (7 : Int)) = true) → (CallsR P0 (66 : Nat) ⟨[Value.int IntKind.i64 top]⟩ R fun e R' => (∃ x : Bool, ((e = Ending.returned (Value.bool x)) ∧ (∀ s : Sl, (∀ R'_1 : Hp, ((Frz R' R'_1 s [Kd.int IntKind.i64] [a2_1]) → (K (Ending.returned (Value.tuple ⟨[Value.int IntKind.i64 (1 : Int), Value.slice s.a s.len s.cap, Value.bool x]⟩)) R'_1)))))))) ∧ (((a2_0 == (7 : Int)) = false) → ((((a2_0 == (8 : Int)) = true) → (CallsR P0 (70 : Nat) ⟨[Value.int IntKind.i64 a2_1]⟩ R fun e R' => (∃ x : ByteArray, (∃ x_1 : Int, ((e = Ending.returned (Value.tuple ⟨[Value.string x, Value.int IntKind.i64 x_1]⟩)) ∧ (((decide (x_1 > (↑a3_2.len : Int)) = true) → (∀ s : Sl, (∀ R'_1 : Hp, ((Frz R' R'_1 s [Kd.int IntKind.i64] []) → (K (Ending.returned (Value.tuple ⟨[Value.int IntKind.i64 (0 : Int), Value.slice s.a s.len s.cap, Value.bool false]⟩)) R'_1))))) ∧ ((decide (x_1 > (↑a3_2.len : Int)) = false) → (((0 : Int) ≤ IntKind.wrap IntKind.i64 ((↑a3_2.len : Int) - x_1)) ∧ ((IntKind.wrap IntKind.i64 ((↑a3_2.len : Int) - x_1) ≤ (↑a3_2.len : Int)) ∧ (((↑a3_2.len : Int) ≤ (↑a3_2.cap : Int)) ∧ (CallsR P0 (71 : Nat) ⟨[Value.int IntKind.i64 a2_1, Value.slice (Sl.from a3_2 (Int.toNat (IntKind.wrap IntKind.i64 ((↑a3_2.len : Int) - x_1))) (Int.toNat (↑a3_2.len : Int)) (1 : Nat)).a (Sl.from a3_2 (Int.toNat (IntKind.wrap IntKind.i64 ((↑a3_2.len : Int) - x_1))) (Int.toNat (↑a3_2.len : Int)) (1 : Nat)).len (Sl.from a3_2 (Int.toNat (IntKind.wrap IntKind.i64 ((↑a3_2.len : Int) - x_1))) (Int.toNat (↑a3_2.len : Int)) (1 : Nat)).cap]⟩ R' fun e_1 R'_1 => (∃ x_2 : Int, ((e_1 = Ending.returned (Value.int IntKind.i64 x_2)) ∧ (∀ s : Sl, (∀ R'_2 : Hp, ((Frz R'_1 R'_2 s [Kd.int IntKind.i64] [x_2]) → (K (Ending.returned (Value.tuple ⟨[Value.int IntKind.i64 x_1, Value.slice s.a s.len s.cap, Value.bool (x_2 != (0 : Int))]⟩)) R'_2))))))))))))))))) ∧ (((a2_0 == (8 : Int)) = false) → ((((a2_0 == (9 : Int)) = true) → (∃ y_2 : ByteArray × Sl × Int × Int × Sl, ((RElem R a0_0 [Kd.str, Kd.sl, Kd.int IntKind.i64, Kd.int IntKind.i64, Kd.sl] a2_1 y_2) ∧ (((decide ((↑y_2.snd.fst.len : Int) > (↑a3_2.len : Int)) = true) → (∀ s : Sl, (∀ R' : Hp, ((Frz R R' s [Kd.int IntKind.i64] []) → (K (Ending.returned (Value.tuple ⟨[Value.int IntKind.i64 (0 : Int), Value.slice s.a s.len s.cap, Value.bool false]⟩)) R'))))) ∧ ((decide ((↑y_2.snd.fst.len : Int) > (↑a3_2.len : Int)) = false) → (∃ Inv : Nat → Int → Hp → Prop, ((∃ n : Nat, (Inv n (0 : Int) R)) ∧ (∀ n : Nat, (∀ x : Int, (∀ R' : Hp, ((Hp.le R R') → ((Inv n x R') → (((decide (x < (↑y_2.snd.fst.len : Int)) = true) → (∃ y_3 : Int, ((RElem R' a3_2 [Kd.int IntKind.i64] (IntKind.wrap IntKind.i64 (IntKind.wrap IntKind.i64 ((↑a3_2.len : Int) - (↑y_2.snd.fst.len : Int)) + x)) y_3) ∧ (∃ y_4 : Int, ((RElem R' y_2.snd.fst [Kd.int IntKind.i64] x y_4) ∧ ((((y_3 != y_4) = true) → (∀ s : Sl, (∀ R'_1 : Hp, ((Frz R' R'_1 s [Kd.int IntKind.i64] []) → (K (Ending.returned (Value.tuple ⟨[Value.int IntKind.i64 (0 : Int), Value.slice s.a s.len s.cap, Value.bool false]⟩)) R'_1))))) ∧ (((y_3 != y_4) = false) → (∃ n' : Nat, ((n' < n) ∧ (Inv n' (IntKind.wrap IntKind.i64 (x + (1 : Int))) R')))))))))) ∧ ((decide (x < (↑y_2.snd.fst.len : Int)) = false) → ((((y_2.snd.snd.fst == (0 : Int)) = true) → (∀ s : Sl, (∀ R'_1 : Hp, ((Frz R' R'_1 s [Kd.int IntKind.i64] []) → (K (Ending.returned (Value.tuple ⟨[Value.int IntKind.i64 (↑y_2.snd.fst.len : Int), Value.slice s.a s.len s.cap, Value.bool true]⟩)) R'_1))))) ∧ (((y_2.snd.snd.fst == (0 : Int)) = false) → (∀ s : Sl, (∀ R'_1 : Hp, ((Frz R' R'_1 s [Kd.int IntKind.i64] [y_2.snd.snd.fst]) → (K (Ending.returned (Value.tuple ⟨[Value.int IntKind.i64 (↑y_2.snd.fst.len : Int), Value.slice s.a s.len s.cap, Value.bool true]⟩)) R'_1)))))))))))))))))))) ∧ (((a2_0 == (9 : Int)) = false) → ((((a2_0 == (11 : Int)) = true) → (∀ s : Sl, (∀ R' : Hp, ((Frz R R' s [Kd.int IntKind.i64] []) → (K (Ending.returned (Value.tuple ⟨[Value.int IntKind.i64 (1 : Int), Value.slice s.a s.len s.cap, Value.bool (top == (1 : Int))]⟩)) R'))))) ∧ (((a2_0 == (11 : Int)) = false) → ((((a2_0 == (12 : Int)) = true) → ((((a2_1 == (0 : Int)) = true) → (∀ s : Sl, (∀ R' : Hp, ((Frz R R' s [Kd.int IntKind.i64] []) → (K (Ending.returned (Value.tuple ⟨[Value.int IntKind.i64 a2_1, Value.slice s.a s.len s.cap, Value.bool true]⟩)) R'))))) ∧ (((a2_1 == (0 : Int)) = false) → (((decide ((↑a3_2.len : Int) > (0 : Int)) = true) → (∀ s : Sl, (∀ R' : Hp, ((Frz R R' s [Kd.int IntKind.i64] []) → (K (Ending.returned (Value.tuple ⟨[Value.int IntKind.i64 a2_1, Value.slice s.a s.len s.cap, Value.bool (top == a1_2)]⟩)) R'))))) ∧ ((decide ((↑a3_2.len : Int) > (0 : Int)) = false) → (∀ s : Sl, (∀ R' : Hp, ((Frz R R' s [Kd.int IntKind.i64] []) → (K (Ending.returned (Value.tuple ⟨[Value.int IntKind.i64 a2_1, Value.slice s.a s.len s.cap, Value.bool false]⟩)) R'))))))))) ∧ (((a2_0 == (12 : Int)) = false) → ((((a2_0 == (13 : Int)) = true) → (∀ s : Sl, (∀ R' : Hp, ((Frz R R' s [Kd.int IntKind.i64] []) → (K (Ending.returned (Value.tuple ⟨[Value.int IntKind.i64 (1 : Int), Value.slice s.a s.len s.cap, Value.bool (top == (2 : Int))]⟩)) R'))))) ∧ (((a2_0 == (13 : Int)) = false) → ((((a2_0 == (15 : Int)) = true) → (∀ s : Sl, (∀ R' : Hp, ((Frz R R' s [Kd.int IntKind.i64] []) → (K (Ending.returned (Value.tuple ⟨[Value.int IntKind.i64 (1 : Int), Value.slice s.a s.len s.cap, Value.bool (top == (2 : Int))]⟩)) R'))))) ∧ (((a2_0 == (15 : Int)) = false) → ((((a2_0 == (14 : Int)) = true) → ((((top == (2 : Int)) = true) → (∀ s : Sl, (∀ R' : Hp, ((Frz R R' s [Kd.int IntKind.i64] []) → (K (Ending.returned (Value.tuple ⟨[Value.int IntKind.i64 (2 : Int), Value.slice s.a s.len s.cap, Value.bool (below == (2 : Int))]⟩)) R'))))) ∧ (((top == (2 : Int)) = false) → (∀ s : Sl, (∀ R' : Hp, ((Frz R R' s [Kd.int IntKind.i64] []) → (K (Ending.returned (Value.tuple ⟨[Value.int IntKind.i64 (2 : Int), Value.slice s.a s.len s.cap, Value.bool false]⟩)) R'))))))) ∧ (((a2_0 == (14 : Int)) = false) → (∀ s : Sl, (∀ R' : Hp, ((Frz R R' s [Kd.int IntKind.i64] []) → (K (Ending.returned (Value.tuple ⟨[Value.int IntKind.i64 (0 : Int), Value.slice s.a s.len s.cap, Value.bool true]⟩)) R')))))))))))))))))))))))))))))))) := by
  subst hr; subst ht; subst hb
  have hi := hc.ins f hf _ hx
  have hh := hc.head f hf
  have yes : ∀ {k : Nat} {l : List Int} {k' : Int} {b : Bool}, mGives c f.result (a2_0, a2_1, a2_2, a2_3) sl st = some (k, l) → k' = (k : Int) → b = true → ∀ R0, R.le R0 → ∀ s R', Frz R0 R' s kI l → K (.returned (.tuple #[.int .i64 k', s.val, .bool b])) R' := fun e ek eb R0 l0 s R' fz => by
    subst ek; subst eb; exact h1 _ e s R' (l0.trans fz.le) fz.sl
  have no : ∀ {l : List Int} {k' : Int} {b : Bool}, mGives c f.result (a2_0, a2_1, a2_2, a2_3) sl st = none → b = false → ∀ R0, R.le R0 → ∀ s R', Frz R0 R' s kI l → K (.returned (.tuple #[.int .i64 k', s.val, .bool b])) R' := fun e eb R0 l0 s R' fz => by
    subst eb; exact h0 e _ s R' (l0.trans fz.le)
  have one : ∀ {t : Int} {k : Nat} {k' : Int}, mGives c f.result (a2_0, a2_1, a2_2, a2_3) sl st = tp1 t k → k' = (k : Int) → ∀ R0, R.le R0 → ∀ s R', Frz R0 R' s kI [t] → K (.returned (.tuple #[.int .i64 k', s.val, .bool (t != 0)])) R' := fun {t k k'} e ek R0 l0 => by
    unfold tp1 at e
    split at e
    · rename_i h; exact no e (by simp [h]) R0 l0
    · rename_i h; exact yes e ek (by simp [h]) R0 l0
  have rr := Hp.le.refl R
  refine ⟨fun o1 => yes ?_ rfl rfl R rr, fun o1 => ⟨fun o2 => ?_, fun o2 => ⟨fun o3 => ?_, fun o3 => ⟨fun o4 => ?_, fun o4 => ⟨fun o5 => ?_, fun o5 => ⟨fun o6 => ?_, fun o6 => ⟨fun o7 => ?_, fun o7 => ⟨fun o8 => ?_, fun o8 => ⟨fun o9 => ?_, fun o9 =>
    ⟨fun o11 => ?_, fun o11 => ⟨fun o12 => ?_, fun o12 => ⟨fun o13 => ?_, fun o13 => ⟨fun o15 => ?_, fun o15 => ⟨fun o14 => ?_, fun o14 => yes ?_ rfl rfl R rr⟩⟩⟩⟩⟩⟩⟩⟩⟩⟩⟩⟩⟩⟩ <;> simp only [beq_iff_eq, beq_eq_false_iff_ne, ne_eq] at *
  · subst o1; rfl
  · subst o2
    have ia : 0 ≤ a2_1 ∧ a2_1 ≤ IntKind.wrap .i64 (f.slots - 1) := (insA hi (by simp)).1 (.inl rfl)
    rw [wrap_in (by omega)] at ia
    have hk : a2_1.toNat < sl.length := by omega
    have ge := hsl.get rr hk
    rw [Int.toNat_of_nonneg ia.1] at ge
    exact ⟨_, ge, _, ge, one (k := 0) (by show (if (2 : Int) = 2 then tp1 (sl.getD a2_1.toNat 0) 0 else _) = _; rw [if_pos rfl, getD_at hk]) rfl R rr⟩
  · subst o3
    rw [hst.len]
    by_cases e : 0 < st.length
    · exact yes (by simp [mGives, mGiv, e]) rfl (by rw [dec_t]; omega) R rr
    · exact no (by simp [mGives, mGiv, e]) (by rw [dec_f]; omega) R rr
  · subst o4
    rw [hst.len]
    by_cases e : 0 < st.length
    · exact yes (by simp [mGives, mGiv, e]) rfl (by rw [dec_t]; omega) R rr
    · exact no (by simp [mGives, mGiv, e]) (by rw [dec_f]; omega) R rr
  · subst o5; exact c_spec_l3Un ⟨_, rfl, one (k := 1) (by simp [mGives, mGiv]) rfl R rr⟩
  · subst o6; exact c_spec_l3Bin ⟨_, rfl, one (k := 2) (by simp [mGives, mGiv]) rfl R rr⟩
  · subst o7
    refine c_spec_l1Integer ⟨_, rfl, ?_⟩
    cases e : mInt (stAt st 0) with
    | true => exact yes (k := 1) (by simp [mGives, mGiv, e]) rfl rfl R rr
    | false => exact no (by simp [mGives, mGiv, e]) rfl R rr
  · subst o8
    have b3 := bt_rng a2_1
    refine c_spec_l1BuiltWord ⟨_, _, rfl, ?_⟩
    rw [hst.len]
    refine ⟨fun e => ?_, fun e => ?_⟩
    · rw [dec_t] at e
      exact no (by simp only [mGives, mGiv]; simp; intro x; simp only [builtK] at x; omega) rfl R rr
    · rw [dec_f] at e
      have ek : builtK a2_1 ≤ st.length := by simp only [builtK]; omega
      rw [wrap_in (by omega)]
      refine ⟨by omega, by omega, by have := hst.1; have := hst.2.1; omega, ?_⟩
      have hs := hst.sub (lo := st.length - builtK a2_1) (hi := st.length) (by omega) (Nat.le_refl _)
      rw [List.take_length] at hs
      have e1 : ((st.length : Int) - (bt a2_1).2).toNat = st.length - builtK a2_1 := by simp only [builtK]; omega
      rw [e1, Int.toNat_natCast]
      refine c_spec_l3Built hs fun R1 l1 => ⟨_, rfl, one (k := builtK a2_1) (by simp [mGives, mGiv, ek]) (by simp only [builtK]; omega) R1 l1⟩
  · subst o9
    have ia : 0 ≤ a2_1 ∧ a2_1 ≤ IntKind.wrap .i64 ((c.length : Int) - 1) := (insA hi (by simp)).2.2.2.2.2.1 rfl
    have cl := hc.len
    rw [wrap_in (by omega)] at ia
    have hk : a2_1.toNat < c.length := by omega
    obtain ⟨t, e1, e2⟩ := hcs.get rr hk
    rw [Int.toNat_of_nonneg ia.1] at e1
    have hg : c[a2_1.toNat]? = some c[a2_1.toNat] := List.getElem?_eq_getElem hk
    generalize c[a2_1.toNat] = g at *
    refine ⟨t, e1, ?_⟩
    have gp := (hc.head g (List.mem_of_getElem? hg)).1
    rw [e2.ps.len, hst.len]
    have eg : mGives c f.result (9, a2_1, a2_2, a2_3) sl st = if g.params.length ≤ st.length ∧ st.drop (st.length - g.params.length) = g.params then some (g.params.length, if g.result = 0 then [] else [g.result]) else none := by
      simp [mGives, mGiv, hg]
    refine ⟨fun e => ?_, fun e => ?_⟩
    · rw [dec_t] at e
      exact no (by rw [eg, if_neg fun x => by omega]) rfl R rr
    · rw [dec_f] at e
      refine loop_up g.params.length 0 (fun k _ => (st.drop (st.length - g.params.length)).take k = g.params.take k) (by omega) rfl fun Inv k R1 l1 hk' hq hn => ⟨fun b1 => ?_, fun b1 => ?_⟩
      · have b1 : k < g.params.length := by rw [dec_t] at b1; omega
        have hk2 : st.length - g.params.length + k < st.length := by omega
        have ge := hst.get l1 hk2
        have hd : k < (st.drop (st.length - g.params.length)).length := by simp; omega
        have hde : (st.drop (st.length - g.params.length))[k] = st[st.length - g.params.length + k] := List.getElem_drop
        rw [wrap_in (n := (st.length : Int) - (g.params.length : Int)) (by omega), wrap_in (by omega), show ((st.length : Int) - (g.params.length : Int) + (k : Int)) = ((st.length - g.params.length + k : Nat) : Int) by omega]
        refine ⟨_, ge, _, e2.ps.get l1 b1, fun b2 => no ?_ rfl R1 l1, fun b2 => ?_⟩
        · rw [bne_iff_ne] at b2
          rw [eg, if_neg fun x => b2 ?_]
          have := x.2
          rw [← hde]
          simp only [this]
        · rw [bne_eq_false_iff_eq] at b2
          obtain ⟨n', hn1, hn2⟩ := hn R1 b1 (by
            rw [List.take_succ_eq_append_getElem hd, List.take_succ_eq_append_getElem b1, hq, hde]
            exact congrArg (fun z => g.params.take k ++ [z]) b2)
          exact ⟨n', hn1, by rw [wrap_up (by omega)]; exact hn2⟩
      · have b1 : k = g.params.length := by rw [dec_f] at b1; omega
        subst b1
        rw [List.take_length, List.take_of_length_le (by simp; omega)] at hq
        rw [e2.res]
        refine ⟨fun b2 => ?_, fun b2 => ?_⟩
        · exact yes (by rw [eg, if_pos ⟨by omega, hq⟩, if_pos (by simpa using b2)]) rfl rfl R1 l1
        · exact yes (by rw [eg, if_pos ⟨by omega, hq⟩, if_neg (by simpa using b2)]) rfl rfl R1 l1
  · subst o11
    by_cases e : stAt st 0 = 1
    · exact yes (k := 1) (by simp [mGives, mGiv, e]) rfl (by simp [e]) R rr
    · exact no (by simp [mGives, mGiv, e]) (by simp [e]) R rr
  · subst o12
    have ia := (insA hi (by simp)).2.2.2.2.2.2.2 rfl
    simp only at ia
    refine ⟨fun e => ?_, fun e => ⟨fun e2 => ?_, fun e2 => ?_⟩⟩
    · exact yes (k := 0) (by simp [mGives, mGiv, e]) (by omega) rfl R rr
    · have e1 : a2_1 = 1 := by omega
      rw [dec_t, hst.len] at e2
      have e2 : 0 < st.length := by omega
      by_cases e3 : stAt st 0 = f.result
      · exact yes (k := 1) (by simp [mGives, mGiv, e1, e2, e3]) (by omega) (by simp [e3]) R rr
      · exact no (by simp [mGives, mGiv, e1, e2, e3]) (by simp [e3]) R rr
    · have e1 : a2_1 = 1 := by omega
      rw [dec_f, hst.len] at e2
      have e2 : ¬ 0 < st.length := by omega
      exact no (by simp [mGives, mGiv, e1, e2]) rfl R rr
  · subst o13
    by_cases e : stAt st 0 = 2
    · exact yes (k := 1) (by simp [mGives, mGiv, e]) rfl (by simp [e]) R rr
    · exact no (by simp [mGives, mGiv, e]) (by simp [e]) R rr
  · subst o15
    by_cases e : stAt st 0 = 2
    · exact yes (k := 1) (by simp [mGives, mGiv, e]) rfl (by simp [e]) R rr
    · exact no (by simp [mGives, mGiv, e]) (by simp [e]) R rr
  · subst o14
    refine ⟨fun e => ?_, fun e => ?_⟩
    · by_cases e2 : stAt st 1 = 2
      · exact yes (k := 2) (by simp [mGives, mGiv, e, e2]) rfl (by simp [e2]) R rr
      · exact no (by simp [mGives, mGiv, e, e2]) (by simp [e2]) R rr
    · exact no (by simp [mGives, mGiv, e]) rfl R rr
  · simp [mGives, mGiv, o1, o2, o3, o4, o5, o6, o7, o8, o9, o11, o12, o13, o14, o15]
theorem stAt_get {st : List Int} {k : Nat} (h : k < st.length) : stAt st k = st[st.length - (k + 1)] := by unfold stAt; rw [if_pos h, getD_at (by omega)]
theorem c_spec_l7Gives {c : List MFn} {cs ps is ssl sst : Sl} {nm : ByteArray} {res slots : Int} {x : TIns} {f : MFn} {sl st : List Int} {R : Hp} {K : Ending → Hp → Prop}
    (hc : CodeOk c) (hf : f ∈ c) (hx : x ∈ f.ins) (hcs : RCode R cs c) (hr : res = f.result) (hsl : RSlice R ssl kI sl) (hst : RSlice R sst kI st) (hln : sl.length = f.slots.toNat) (hstl : st.length ≤ 600)
    (h1 : ∀ r, mGives c f.result x sl st = some r → ∀ (s : Sl) (R' : Hp), R.le R' → RSlice R' s kI r.2 → K (.returned (.tuple #[.int .i64 r.1, s.val, .bool true])) R')
    (h0 : mGives c f.result x sl st = none → ∀ (k : Int) (s : Sl) (R' : Hp), R.le R' → K (.returned (.tuple #[.int .i64 k, s.val, .bool false])) R') :
    CallsR P0 F_spec_l7Gives #[.agg #[cs.val], .agg #[.string nm, ps.val, .int .i64 res, .int .i64 slots, is.val], .agg #[.int .i64 x.1, .int .i64 x.2.1, .int .i64 x.2.2.1, .string x.2.2.2], .agg #[.int .i64 1, ssl.val, sst.val]] R K := go_spec_l7Gives (by
  obtain ⟨a, b, d, e⟩ := x
  unfold vc_spec_l7Gives
  have hl := hst.len
  have rr := Hp.le.refl R
  refine ⟨fun b1 => ?_, fun b1 => ⟨fun b2 => ?_, fun b2 => ?_⟩⟩
  · have b1 : 0 < st.length := by rw [dec_t, hl] at b1; omega
    have g1 := hst.get rr (show st.length - 1 < st.length by omega)
    rw [hl, wrap_in (by omega), show ((st.length : Int) - 1) = ((st.length - 1 : Nat) : Int) by omega]
    refine ⟨_, g1, fun b2 => ?_, fun b2 => ?_⟩
    · have b2 : 1 < st.length := by rw [dec_t] at b2; omega
      have g2 := hst.get rr (show st.length - 2 < st.length by omega)
      rw [wrap_in (by omega), show ((st.length : Int) - 2) = ((st.length - 2 : Nat) : Int) by omega]
      rw [← hl]
      exact ⟨_, g2, gives_tail hc hf hx hcs hr hsl hst hln hstl (stAt_get b1).symm (stAt_get b2).symm h1 h0⟩
    · rw [dec_f] at b2
      rw [← hl]
      exact gives_tail hc hf hx hcs hr hsl hst hln hstl (stAt_get b1).symm (by unfold stAt; rw [if_neg (by omega)]) h1 h0
  · rw [dec_f, hl] at b1; rw [dec_t, hl] at b2; omega
  · rw [dec_f, hl] at b1
    exact gives_tail hc hf hx hcs hr hsl hst hln hstl (by unfold stAt; rw [if_neg (by omega)]) (by unfold stAt; rw [if_neg (by omega)]) h1 h0)
end Go.KE

/- What an instruction leaves: the program's helpers, and the specification's whole. -/
namespace Go.KE
set_option maxRecDepth 100000

theorem c_take {n : Int} {d : Sl} {st : List Int} {R : Hp} {K : List (Option Value) → LTup (XS.outs sig_impl_effect_1) → Hp → Prop} (hd : RSlice R d kI st) (hl : st.length ≤ 600) (hn : 0 ≤ n)
    (h0 : (st.length : Int) < n → K [some (.slice none 0 0)] d R) (h1 : n ≤ st.length → K [some (d.from (st.length - n.toNat) st.length 1).val] (d.from 0 (st.length - n.toNat) 1) R) :
    CallsX P0 F_impl_effect_1 sig_impl_effect_1 [.l (.int .i64 n), .l (.adr 1001 0)] d R K := go_impl_effect_1 (by
  unfold vc_impl_effect_1
  have e := hd.len
  have e2 := hd.1
  have e3 := hd.2.1
  refine ⟨fun b => h0 (by rw [dec_t, e] at b; exact b), fun b => ?_⟩
  rw [dec_f, e] at b
  have h1 := h1 (by omega)
  rw [e, wrap_in (by omega)]
  have et : ((st.length : Int) - n).toNat = st.length - n.toNat := by omega
  refine ⟨by omega, by omega, by omega, by omega, by omega, by omega, ?_⟩
  rw [et, Int.toNat_natCast]
  exact h1)
theorem some_of_pos {R : Hp} {d : Sl} {st : List Int} (hd : RSlice R d kI st) (h : 0 < st.length) : Option.isNone d.a = false := by
  obtain ⟨a, ha, _⟩ := hd.get (Hp.le.refl R) h
  rw [ha]; rfl
def takesOk (ws st : List Int) : Bool := decide (ws.length ≤ st.length ∧ st.drop (st.length - ws.length) = ws)
theorem takes_loop {a0 x d' : Sl} {ws ks : List Int} {R : Hp} {K : List (Option Value) → LTup (XS.outs sig_impl_effect_2) → Hp → Prop} (ha : RSlice R a0 kI ws) (hx : RSlice R x kI ks) (hl : ks.length = ws.length) (hw : ws.length ≤ 600)
    (h : ∀ R', R.le R' → K [some (.bool (decide (ks = ws)))] ((), d') R') :
    ∃ Inv : Nat → Int → Hp → Prop, ((∃ n : Nat, (Inv n 0 R)) ∧ (∀ n : Nat, (∀ x_1 : Int, (∀ R'_1 : Hp, ((Hp.le R R'_1) → ((Inv n x_1 R'_1) → (((decide (x_1 < (↑a0.len : Int)) = true) → (∃ y : Int, ((RElem R'_1 x [Kd.int IntKind.i64] x_1 y) ∧ (∃ y_1 : Int, ((RElem R'_1 a0 [Kd.int IntKind.i64] x_1 y_1) ∧ ((((y != y_1) = true) → (K [some (Value.bool false)] ((), d') R'_1)) ∧ (((y != y_1) = false) → (∃ n' : Nat, ((n' < n) ∧ (Inv n' (IntKind.wrap IntKind.i64 (x_1 + 1)) R'_1)))))))))) ∧ ((decide (x_1 < (↑a0.len : Int)) = false) → (K [some (Value.bool true)] ((), d') R'_1))))))))) := by
  rw [ha.len]
  refine loop_up ws.length 0 (fun k _ => ks.take k = ws.take k) (by omega) rfl fun Inv k R1 l1 hk hq hn => ⟨fun b1 => ?_, fun b1 => ?_⟩
  · have b1 : k < ws.length := by rw [dec_t] at b1; omega
    have b1' : k < ks.length := by omega
    refine ⟨_, hx.get l1 b1', _, ha.get l1 b1, fun b2 => ?_, fun b2 => ?_⟩
    · rw [bne_iff_ne] at b2
      have := h R1 l1
      rwa [decide_eq_false fun e => b2 (by subst e; rfl)] at this
    · rw [bne_eq_false_iff_eq] at b2
      obtain ⟨n', hn1, hn2⟩ := hn R1 b1 (by rw [List.take_succ_eq_append_getElem b1, List.take_succ_eq_append_getElem b1', hq]; exact congrArg (fun z => ws.take k ++ [z]) b2)
      exact ⟨n', hn1, by rw [wrap_up (by omega)]; exact hn2⟩
  · have b1 : k = ws.length := by rw [dec_f] at b1; omega
    subst b1
    rw [List.take_length, List.take_of_length_le (by omega)] at hq
    have := h R1 l1
    rwa [decide_eq_true hq] at this
theorem c_takes {a0 d : Sl} {ws st : List Int} {R : Hp} {K : List (Option Value) → LTup (XS.outs sig_impl_effect_2) → Hp → Prop} (hd : RSlice R d kI st) (ha : RSlice R a0 kI ws) (hl : st.length ≤ 600) (hw : ws.length ≤ 600)
    (h0 : takesOk ws st = false → ∀ d' R', R.le R' → K [some (.bool false)] ((), d') R') (h1 : takesOk ws st = true → ws.length ≤ st.length → ∀ R', R.le R' → K [some (.bool true)] ((), d.from 0 (st.length - ws.length) 1) R') :
    CallsX P0 F_impl_effect_2 sig_impl_effect_2 [.l (.sl a0), .l (.adr 1001 0)] ((), d) R K := go_impl_effect_2 (by
  unfold vc_impl_effect_2
  have e := ha.len
  refine c_take (n := a0.len) hd hl (by omega) (fun hlt => ?_) fun hle => ?_
  · rw [e] at hlt
    refine ⟨⟨none, 0, 0⟩, rfl, fun _ => ⟨fun _ => h0 ?_ d R (Hp.le.refl R), fun b => ?_⟩, fun b => by cases b⟩
    · simp [takesOk]; omega
    · rw [dec_f, e] at b; omega
  · rw [e] at hle
    have en : (a0.len : Int).toNat = ws.length := by omega
    rw [en]
    have hks := hd.sub (lo := st.length - ws.length) (hi := st.length) (by omega) (Nat.le_refl _)
    rw [List.take_length] at hks
    have main := takes_loop (d' := d.from 0 (st.length - ws.length) 1) (K := K) ha hks (by simp; omega) hw fun R' l => by
      have hle : ws.length ≤ st.length := by omega
      cases c : decide (st.drop (st.length - ws.length) = ws) with
      | true => exact h1 (by simp at c; simp [takesOk, hle, c]) hle R' l
      | false => exact h0 (by simp at c; simp [takesOk, c]) _ R' l
    refine ⟨_, rfl, fun hn => ⟨fun b => ?_, fun _ => main⟩, fun _ => main⟩
    rw [dec_t, e] at b
    have := some_of_pos hks (by simp; omega)
    rw [this] at hn; cases hn)
def putIf (st : List Int) (p : Int) : List Int := if p = 0 then st else st ++ [p]
abbrev badV : Value := .tuple { toList := [Value.agg ⟨[Value.int .i64 0, Value.slice none 0 0, Value.slice none 0 0]⟩, Value.bool false] }
theorem put_tail {put : Int} {ssl sst : Sl} {st : List Int} {R : Hp} {K : Ending → Hp → Prop} (hst : RSlice R sst kI st) (hl : st.length ≤ 600)
    (h1 : (putIf st put).length ≤ 600 → ∀ (s : Sl) R', R.le R' → RSlice R' s kI (putIf st put) → K (.returned (.tuple #[.agg #[.int .i64 1, ssl.val, s.val], .bool true])) R')
    (h0 : ¬ (putIf st put).length ≤ 600 → K (.returned badV) R) :
    ((((put != (0 : Int)) = true) → (∃ xs : List Int, ((RSlice R sst [Kd.int IntKind.i64] xs) ∧ ((List.length xs * (8 : Nat) ≤ (140737488355328 : Nat)) ∧ (((List.length xs + List.length (List.set (List.replicate (1 : Nat) (Tup.zero [Kd.int IntKind.i64])) (0 : Nat) put)) * (8 : Nat) ≤ (140737488355328 : Nat)) ∧ (((decide ((↑(List.length (xs ++ List.set (List.replicate (1 : Nat) (Tup.zero [Kd.int IntKind.i64])) (0 : Nat) put)) : Int) > (600 : Int)) = true) → (K (Ending.returned (Value.tuple { toList := [Value.agg ⟨[Value.int IntKind.i64 (0 : Int), Value.slice none (0 : Nat) (0 : Nat), Value.slice none (0 : Nat) (0 : Nat)]⟩, Value.bool false] })) R)) ∧ ((decide ((↑(List.length (xs ++ List.set (List.replicate (1 : Nat) (Tup.zero [Kd.int IntKind.i64])) (0 : Nat) put)) : Int) > (600 : Int)) = false) → (∀ s : Sl, (∀ R' : Hp, ((Frz R R' s [Kd.int IntKind.i64] (xs ++ List.set (List.replicate (1 : Nat) (Tup.zero [Kd.int IntKind.i64])) (0 : Nat) put)) → (K (Ending.returned (Value.tuple { toList := [Value.agg ⟨[Value.int IntKind.i64 (1 : Int), Value.slice ssl.a ssl.len ssl.cap, Value.slice s.a s.len s.cap]⟩, Value.bool true] })) R'))))))))))) ∧ (((put != (0 : Int)) = false) → (((decide ((↑sst.len : Int) > (600 : Int)) = true) → (K (Ending.returned (Value.tuple { toList := [Value.agg ⟨[Value.int IntKind.i64 (0 : Int), Value.slice none (0 : Nat) (0 : Nat), Value.slice none (0 : Nat) (0 : Nat)]⟩, Value.bool false] })) R)) ∧ ((decide ((↑sst.len : Int) > (600 : Int)) = false) → (K (Ending.returned (Value.tuple { toList := [Value.agg ⟨[Value.int IntKind.i64 (1 : Int), Value.slice ssl.a ssl.len ssl.cap, Value.slice sst.a sst.len sst.cap]⟩, Value.bool true] })) R))))) := by
  refine ⟨fun b => ?_, fun b => ?_⟩
  · rw [bne_iff_ne] at b
    have e : putIf st put = st ++ [put] := by unfold putIf; rw [if_neg b]
    rw [e] at h1 h0
    refine ⟨st, hst, by omega, by simp; omega, fun c => h0 ?_, fun c s R' fz => h1 ?_ s R' fz.le fz.sl⟩
    · rw [dec_t] at c; simp at c ⊢; omega
    · rw [dec_f] at c; simp at c ⊢; omega
  · rw [bne_eq_false_iff_eq] at b
    have e : putIf st put = st := by unfold putIf; rw [if_pos b]
    rw [e] at h1 h0
    have hlen := hst.len
    refine ⟨fun c => h0 ?_, fun c => h1 ?_ sst R (Hp.le.refl R) hst⟩
    · rw [dec_t, hlen] at c; omega
    · omega
theorem mGoes_len (x : TIns) (i : Int) : (mGoes x i).length ≤ 2 := by unfold mGoes; (repeat' split) <;> simp
theorem mGives_len {c : List MFn} {res : Int} {x : TIns} {sl st : List Int} {r : Nat × List Int} (e : mGives c res x sl st = some r) : r.2.length ≤ 1 := by
  have t1 : ∀ {t : Int} {k : Nat}, tp1 t k = some r → r.2.length ≤ 1 := fun {t k} he => by
    unfold tp1 at he
    split at he
    · cases he
    · cases he; simp
  unfold mGives at e
  by_cases hh : x.1 = 2
  · rw [if_pos hh] at e; exact t1 e
  rw [if_neg hh] at e
  unfold mGiv at e
  by_cases hh : x.1 = 1
  · rw [if_pos hh] at e; cases e; simp
  rw [if_neg hh] at e
  by_cases hh : x.1 = 3 ∨ x.1 = 4
  · rw [if_pos hh] at e
    split at e <;> cases e
    simp
  rw [if_neg hh] at e
  by_cases hh : x.1 = 5
  · rw [if_pos hh] at e; exact t1 e
  rw [if_neg hh] at e
  by_cases hh : x.1 = 6
  · rw [if_pos hh] at e; exact t1 e
  rw [if_neg hh] at e
  by_cases hh : x.1 = 7
  · rw [if_pos hh] at e
    split at e <;> cases e
    simp
  rw [if_neg hh] at e
  by_cases hh : x.1 = 8
  · rw [if_pos hh] at e
    split at e
    · exact t1 e
    · cases e
  rw [if_neg hh] at e
  by_cases hh : x.1 = 9
  · rw [if_pos hh] at e
    cases hg : c[x.2.1.toNat]? with
    | none => rw [hg] at e; cases e
    | some g =>
      rw [hg] at e
      simp only at e
      split at e
      · cases e
        simp only
        split <;> simp
      · cases e
  rw [if_neg hh] at e
  by_cases hh : x.1 = 11
  · rw [if_pos hh] at e
    split at e <;> cases e
    simp
  rw [if_neg hh] at e
  by_cases hh : x.1 = 12
  · rw [if_pos hh] at e
    split at e
    · cases e; simp
    · split at e <;> cases e
      simp
  rw [if_neg hh] at e
  by_cases hh : x.1 = 13 ∨ x.1 = 15
  · rw [if_pos hh] at e
    split at e <;> cases e
    simp
  rw [if_neg hh] at e
  by_cases hh : x.1 = 14
  · rw [if_pos hh] at e
    split at e <;> cases e
    simp
  rw [if_neg hh] at e
  cases e; simp
theorem c_spec_l7Behind {c : List MFn} {cs ps is : Sl} {nm : ByteArray} {res slots : Int} {f : MFn} {i : Nat} {t : Int × Sl × Sl} {a : Sh} {R : Hp} {K : Ending → Hp → Prop}
    (hc : CodeOk c) (hf : f ∈ c) (hi : i < f.ins.length) (hcs : RCode R cs c) (hfn : RFn R (nm, ps, res, slots, is) f) (ha : a ≠ none) (hg : a.Good f.slots.toNat) (hs : RSh R t a)
    (h : ∀ (t' : Int × Sl × Sl) R', R.le R' → RSh R' t' (mOut c f i a) → K (.returned (.agg #[.int .i64 t'.1, t'.2.1.val, t'.2.2.val])) R') :
    CallsR P0 F_spec_l7Behind #[.agg #[cs.val], .agg #[.string nm, ps.val, .int .i64 res, .int .i64 slots, is.val], .int .i64 i, .agg #[.int .i64 t.1, t.2.1.val, t.2.2.val]] R K := go_spec_l7Behind (by
  unfold vc_spec_l7Behind
  have rr := Hp.le.refl R
  obtain ⟨t1, ssl, sst⟩ := t
  refine ⟨_, hfn.ins.get rr hi, ?_⟩
  have hx : f.ins[i]? = some f.ins[i] := List.getElem?_eq_getElem hi
  have hxm : f.ins[i] ∈ f.ins := List.getElem_mem hi
  have hln := hc.head f hf
  match a, ha, hg, hs with
  | some none, _, _, hs =>
    have hs : t1 = 2 := hs
    subst hs
    exact ⟨fun _ => h (2, ⟨none, 0, 0⟩, ⟨none, 0, 0⟩) R rr rfl, fun b => by cases b⟩
  | some (some p), _, hg, hs =>
    obtain ⟨sl, st⟩ := p
    have e1 : t1 = 1 := hs.1
    subst e1
    have hsl : RSlice R ssl kI sl := hs.2.1
    have hst : RSlice R sst kI st := hs.2.2
    have hg1 : sl.length = f.slots.toNat := hg.1
    have hg4 : st.length ≤ 600 := hg.2.2.2
    have eo : mOut c f i (some (some (sl, st))) = some (mStep c f f.ins[i] i (sl, st)) := by simp only [mOut, hx]
    generalize hX : f.ins[i] = x at *
    have bad : ∀ R', R.le R' → mStep c f x i (sl, st) = none → K (.returned (.agg ⟨[.int .i64 2, .slice none 0 0, .slice none 0 0]⟩)) R' := fun R' l e => h (2, ⟨none, 0, 0⟩, ⟨none, 0, 0⟩) R' l (by rw [eo, e]; rfl)
    refine ⟨fun b => (by cases b), fun _ => ?_⟩
    refine c_spec_l7Gives hc hf hxm hcs hfn.res hsl hst hg1 hg4 (fun r hr s R1 l1 hs1 => ⟨_, s, true, rfl, fun b => (by cases b), fun _ => ?_⟩) fun hr k s R1 l1 => ⟨k, s, false, rfl, fun _ => bad R1 l1 (by simp only [mStep, hr]; rfl), fun b => (by cases b)⟩
    have el := hst.len
    have ei := hfn.ins.len
    have es : mStep c f x i (sl, st) = mAfter f.ins.length x i (sl, st) r := by simp only [mStep, hr]; rfl
    refine ⟨fun b => bad R1 l1 ?_, fun b => ?_⟩
    · rw [dec_t, el] at b
      rw [es]; unfold mAfter; rw [if_neg fun y => by have := y.1; simp only at this; omega]
    · rw [dec_f, el] at b
      refine c_spec_l7Goes (by omega) fun sg R2 l2 hsg => ⟨sg, rfl, ?_⟩
      have hsg : RSlice R2 sg kI (mGoes x i) := hsg
      have l02 := l1.trans l2
      have g2 := mGoes_len x i
      rw [hsg.len]
      refine loop_upX (mGoes x i).length 0 _ (fun k _ _ => ∀ j, j < k → (mGoes x i).getD j 0 < (f.ins.length : Int)) (fun k y => y.1 = (k : Int)) rfl (by omega) (fun j b => by omega) fun Inv k y R3 l3 hk hy hq hn => ⟨fun c1 => ?_, fun c1 => ?_⟩
      · rw [hy] at c1 ⊢
        have c1 : k < (mGoes x i).length := by rw [dec_t] at c1; omega
        refine ⟨_, hsg.get l3 c1, fun c2 => bad R3 (l02.trans l3) ?_, fun c2 => ?_⟩
        · rw [dec_t] at c2
          have c2 : (f.ins.length : Int) ≤ (mGoes x i)[k] := by have := c2; rw [← ei]; exact this
          rw [es]; unfold mAfter; rw [if_neg fun y => ?_]
          have := y.2.1 _ (List.getElem_mem c1)
          omega
        · rw [dec_f] at c2
          have c2 : (mGoes x i)[k] < (f.ins.length : Int) := by
            have : ¬ (mGoes x i)[k] ≥ (is.len : Int) := c2
            rw [← ei]; simp only; omega
          refine hn _ R3 c1 (wrap_up (by omega)) fun j hj => ?_
          rcases Nat.lt_or_ge j k with z | z
          · exact hq j z
          · have : j = k := by omega
            subst this
            rw [getD_at c1]; exact c2
      · rw [hy] at c1
        have c1 : k = (mGoes x i).length := by rw [dec_f] at c1; omega
        subst c1
        have hgo : ∀ y ∈ mGoes x i, y < (f.ins.length : Int) := fun y hy => by
          obtain ⟨j, hj, rfl⟩ := List.mem_iff_getElem.1 hy
          have := hq j hj
          rwa [getD_at hj] at this
        have l03 := l02.trans l3
        have er : ((st.length : Int) - (r.1 : Int)).toNat = st.length - r.1 := by omega
        have ec := hst.1
        have ec2 := hst.2.1
        rw [el, wrap_in (n := (st.length : Int) - (r.1 : Int)) (by omega), er]
        have hsub := (hst.mono l03).sub (lo := 0) (hi := st.length - r.1) (by omega) (by omega)
        rw [List.drop_zero] at hsub
        have lr := hln.2.2.2.1
        refine ⟨sl, hsl.mono l03, by simp; omega, by omega, by omega, by (show _ ≤ (sst.cap : Int)); omega, _, hsub, by simp; omega, r.2, hs1.mono (l2.trans l3), ?_⟩
        have hp2 := mGives_len hr
        simp only [List.replicate, List.nil_append]
        refine ⟨by simp only [List.length_take]; omega, fun d1 => bad R3 l03 ?_, fun d1 => ?_⟩
        · rw [dec_t] at d1
          rw [es]; unfold mAfter; rw [if_neg fun y => by have := y.2.2; simp only at this; omega]
        · rw [dec_f] at d1
          have em : mStep c f x i (sl, st) = some (if x.1 = 3 then sl.set x.2.1.toNat (stAt st 0) else sl, st.take (st.length - r.1) ++ r.2) := by
            rw [es]; unfold mAfter; rw [if_pos ⟨by simp only; omega, hgo, by simp only; omega⟩]
          rw [em] at eo
          refine ⟨fun d2 => ?_, fun d2 s R4 f4 s2 R5 f5 => h (1, s, s2) R5 (l03.trans (f4.le.trans f5.le)) ?_⟩
          · rw [beq_iff_eq] at d2
            have hr3 : r.1 = 1 ∧ 0 < st.length := by
              have : mGives c f.result x sl st = if 0 < st.length then some (1, []) else none := by simp [mGives, mGiv, d2]
              rw [this] at hr
              split at hr
              · cases hr; exact ⟨rfl, by assumption⟩
              · cases hr
            have ia := (insA (hc.ins f hf x hxm) (by omega)).1 (.inr d2)
            rw [wrap_in (by omega)] at ia
            have hk2 : st.length - 1 < st.length := by omega
            rw [wrap_in (by omega), show ((st.length : Int) - 1) = ((st.length - 1 : Nat) : Int) by omega]
            refine ⟨_, hst.get l03 hk2, by omega, by omega, sl[x.2.1.toNat]'(by omega), List.getElem?_eq_getElem (by omega), fun s R4 f4 s2 R5 f5 => h (1, s, s2) R5 (l03.trans (f4.le.trans f5.le)) ?_⟩
            rw [eo, if_pos d2, stAt_get hr3.2]
            exact ⟨rfl, f4.sl.mono f5.le, f5.sl⟩
          · rw [beq_eq_false_iff_ne] at d2
            rw [eo, if_neg d2]
            exact ⟨rfl, f4.sl.mono f5.le, f5.sl⟩)
end Go.KE

/- What an instruction leaves: the program. -/
namespace Go.KE
set_option maxRecDepth 100000

def builtN : List Int := [0, 1, 1, 1, 2, 0, 1, 2, 3, 2, 1, 1, 1]
theorem builtN_eq : List.set (List.set (List.set (List.set (List.set (List.set (List.set (List.set (List.set (List.set (List.set (List.set (List.set (List.replicate 13 (Tup.zero [Kd.int .i64])) 0 (0 : Int)) 1 (1 : Int)) 2 (1 : Int)) 3 (1 : Int)) 4 (2 : Int)) 5 (0 : Int)) 6 (1 : Int)) 7 (2 : Int)) 8 (3 : Int)) 9 (2 : Int)) 10 (1 : Int)) 11 (1 : Int)) 12 (1 : Int) = builtN := rfl
theorem builtN_at {a : Int} (h : 1 ≤ a ∧ a ≤ 12) : builtN[a.toNat]? = some (builtK a : Int) := by
  have : a = 1 ∨ a = 2 ∨ a = 3 ∨ a = 4 ∨ a = 5 ∨ a = 6 ∨ a = 7 ∨ a = 8 ∨ a = 9 ∨ a = 10 ∨ a = 11 ∨ a = 12 := by omega
  rcases this with rfl | rfl | rfl | rfl | rfl | rfl | rfl | rfl | rfl | rfl | rfl | rfl <;> rfl
theorem drop_one {st : List Int} (h : 1 ≤ st.length) : st.drop (st.length - 1) = [stAt st 0] := by
  rw [stAt_get (by omega)]
  have := List.drop_eq_getElem_cons (l := st) (i := st.length - 1) (by omega)
  rw [this, List.drop_of_length_le (by omega)]
theorem drop_two {st : List Int} (h : 2 ≤ st.length) : st.drop (st.length - 2) = [stAt st 1, stAt st 0] := by
  rw [stAt_get (k := 1) (by omega)]
  have := List.drop_eq_getElem_cons (l := st) (i := st.length - 2) (by omega)
  rw [this, show st.length - 2 + 1 = st.length - 1 by omega, drop_one (by omega)]
theorem stAt_lt {st : List Int} {k : Nat} (h : ¬ k < st.length) : stAt st k = 0 := by unfold stAt; rw [if_neg h]
theorem takes_one {w : Int} {st : List Int} (hw : w ≠ 0) : takesOk [w] st = decide (stAt st 0 = w) := by
  unfold takesOk
  by_cases h : 1 ≤ st.length
  · rw [show ([w] : List Int).length = 1 from rfl, drop_one h]
    exact dec_eq ⟨fun x => by simpa using x.2, fun x => ⟨h, by rw [x]⟩⟩
  · rw [stAt_lt (by omega), decide_eq_false (fun x => h x.1), decide_eq_false (fun x => hw x.symm)]
theorem takes_two {v w : Int} {st : List Int} (hv : v ≠ 0) (hw : w ≠ 0) : takesOk [v, w] st = decide (stAt st 0 = w ∧ stAt st 1 = v) := by
  unfold takesOk
  by_cases h : 2 ≤ st.length
  · rw [show ([v, w] : List Int).length = 2 from rfl, drop_two h]
    exact dec_eq ⟨fun x => by have := x.2; simp at this; exact ⟨this.2, this.1⟩, fun x => ⟨h, by rw [x.1, x.2]⟩⟩
  · rw [stAt_lt (k := 1) (by omega), decide_eq_false (fun x => h x.1), decide_eq_false (fun x => hv x.2.symm)]
theorem mInt_pos {t : Int} (h : mInt t = true) : t ≠ 0 := by simp [mInt] at h; omega
theorem c_impl_effect {c : List MFn} {cs ps is : Sl} {nm : ByteArray} {res slots : Int} {f : MFn} {i : Nat} {ssl sst : Sl} {sl st : List Int} {R : Hp} {K : Ending → Hp → Prop} (g : Glob R)
    (hc : CodeOk c) (hf : f ∈ c) (hi : i < f.ins.length) (hcs : RCode R cs c) (hfn : RFn R (nm, ps, res, slots, is) f) (hg : Sh.Good f.slots.toNat (some (some (sl, st)))) (hsl : RSlice R ssl kI sl) (hst : RSlice R sst kI st)
    (h1 : ∀ q, mOut c f i (some (some (sl, st))) = some (some q) → ∀ (s1 s2 : Sl) R', R.le R' → RSlice R' s1 kI q.1 → RSlice R' s2 kI q.2 → K (.returned (.tuple #[.agg #[.int .i64 1, s1.val, s2.val], .bool true])) R')
    (h0 : mOut c f i (some (some (sl, st))) = some none → ∀ R', R.le R' → K (.returned badV) R') :
    CallsR P0 F_impl_effect #[.agg #[cs.val], .agg #[.string nm, ps.val, .int .i64 res, .int .i64 slots, is.val], .int .i64 i, .agg #[.int .i64 1, ssl.val, sst.val]] R K := go_impl_effect (by
  unfold vc_impl_effect
  have rr := Hp.le.refl R
  refine ⟨_, hfn.ins.get rr hi, ?_⟩
  have hx : f.ins[i]? = some f.ins[i] := List.getElem?_eq_getElem hi
  have hxm : f.ins[i] ∈ f.ins := List.getElem_mem hi
  have hln := hc.head f hf
  have hg1 : sl.length = f.slots.toNat := hg.1
  have hg3 : ∀ x ∈ st, 1 ≤ x ∧ x ≤ 10 := hg.2.2.1
  have hg4 : st.length ≤ 600 := hg.2.2.2
  have eo : mOut c f i (some (some (sl, st))) = some (mStep c f f.ins[i] i (sl, st)) := by simp only [mOut, hx]
  have hio := hc.ins f hf _ hxm
  generalize hX : f.ins[i] = x at *
  have er : res = f.result := hfn.res
  subst er
  have s0 := stAt_rng hg3 0
  have s1' := stAt_rng hg3 1
  refine c_impl_next (by omega) fun sg R1 l1 hsg => ⟨sg, rfl, ?_⟩
  have hsg : RSlice R1 sg kI (mGoes x i) := hsg
  have g2 := mGoes_len x i
  have ei : (is.len : Int) = (f.ins.length : Int) := hfn.ins.len
  have hup : ∀ y ∈ mGoes x i, y ≤ (f.ins.length : Int) := fun y hy => by
    unfold mGoes at hy
    split at hy
    · cases hy
    · split at hy
      · rename_i hh
        simp at hy; subst hy
        exact ((insA hio (by omega)).2.2.2.2.2.2.1 (.inl hh)).2
      · split at hy
        · rename_i hh
          simp at hy
          rcases hy with hy | hy
          · subst hy; exact ((insA hio (by omega)).2.2.2.2.2.2.1 (.inr hh)).2
          · omega
        · simp at hy; omega
  rw [hsg.len]
  refine loop_upX (mGoes x i).length 0 _ (fun k _ _ => ∀ j, j < k → (mGoes x i).getD j 0 < (f.ins.length : Int)) (fun k y => y.1 = (k : Int)) rfl (by omega) (fun j b => by omega) fun Inv k y R2 l2 hk hy hq hn => ⟨fun c1 => ?_, fun c1 => ?_⟩
  · rw [hy] at c1 ⊢
    have c1 : k < (mGoes x i).length := by rw [dec_t] at c1; omega
    refine ⟨_, hsg.get l2 c1, fun c2 => h0 ?_ R2 (l1.trans l2), fun c2 => ?_⟩
    · rw [beq_iff_eq, ei] at c2
      rw [eo]
      have hA : ∀ r, mAfter f.ins.length x i (sl, st) r = none := fun r => by
        unfold mAfter; rw [if_neg fun y => ?_]
        have := y.2.1 _ (List.getElem_mem c1)
        have c2 : (mGoes x i)[k] = (f.ins.length : Int) := c2
        omega
      unfold mStep
      cases mGives c f.result x (sl, st).1 (sl, st).2 with
      | none => rfl
      | some r => exact congrArg some (hA r)
    · rw [beq_eq_false_iff_ne, ei] at c2
      have c2 : ¬ (mGoes x i)[k] = (f.ins.length : Int) := c2
      have := hup _ (List.getElem_mem c1)
      refine hn _ R2 c1 (wrap_up (by omega)) fun j hj => ?_
      rcases Nat.lt_or_ge j k with z | z
      · exact hq j z
      · have : j = k := by omega
        subst this
        rw [getD_at c1]; omega
  · rw [hy] at c1
    have c1 : k = (mGoes x i).length := by rw [dec_f] at c1; omega
    subst c1
    have hgo : ∀ y ∈ mGoes x i, y < (f.ins.length : Int) := fun y hy => by
      obtain ⟨j, hj, rfl⟩ := List.mem_iff_getElem.1 hy
      have := hq j hj
      rwa [getD_at hj] at this
    have l02 := l1.trans l2
    have bad : mGives c f.result x sl st = none → ∀ R', R2.le R' → K (.returned badV) R' := fun e R' l => h0 (by rw [eo]; simp only [mStep, e]; rfl) R' (l02.trans l)
    have fin : ∀ {k : Nat} {put : Int} {ss : Sl} {R' : Hp}, mGives c f.result x sl st = some (k, if put = 0 then [] else [put]) → k ≤ st.length → x.1 ≠ 3 → R2.le R' → RSlice R' ss kI (st.take (st.length - k)) →
        ((((put != (0 : Int)) = true) → (∃ xs : List Int, ((RSlice R' ss [Kd.int IntKind.i64] xs) ∧ ((List.length xs * (8 : Nat) ≤ (140737488355328 : Nat)) ∧ (((List.length xs + List.length (List.set (List.replicate (1 : Nat) (Tup.zero [Kd.int IntKind.i64])) (0 : Nat) put)) * (8 : Nat) ≤ (140737488355328 : Nat)) ∧ (((decide ((↑(List.length (xs ++ List.set (List.replicate (1 : Nat) (Tup.zero [Kd.int IntKind.i64])) (0 : Nat) put)) : Int) > (600 : Int)) = true) → (K (Ending.returned (Value.tuple { toList := [Value.agg ⟨[Value.int IntKind.i64 (0 : Int), Value.slice none (0 : Nat) (0 : Nat), Value.slice none (0 : Nat) (0 : Nat)]⟩, Value.bool false] })) R')) ∧ ((decide ((↑(List.length (xs ++ List.set (List.replicate (1 : Nat) (Tup.zero [Kd.int IntKind.i64])) (0 : Nat) put)) : Int) > (600 : Int)) = false) → (∀ s : Sl, (∀ R'_ : Hp, ((Frz R' R'_ s [Kd.int IntKind.i64] (xs ++ List.set (List.replicate (1 : Nat) (Tup.zero [Kd.int IntKind.i64])) (0 : Nat) put)) → (K (Ending.returned (Value.tuple { toList := [Value.agg ⟨[Value.int IntKind.i64 (1 : Int), Value.slice ssl.a ssl.len ssl.cap, Value.slice s.a s.len s.cap]⟩, Value.bool true] })) R'_))))))))))) ∧ (((put != (0 : Int)) = false) → (((decide ((↑ss.len : Int) > (600 : Int)) = true) → (K (Ending.returned (Value.tuple { toList := [Value.agg ⟨[Value.int IntKind.i64 (0 : Int), Value.slice none (0 : Nat) (0 : Nat), Value.slice none (0 : Nat) (0 : Nat)]⟩, Value.bool false] })) R')) ∧ ((decide ((↑ss.len : Int) > (600 : Int)) = false) → (K (Ending.returned (Value.tuple { toList := [Value.agg ⟨[Value.int IntKind.i64 (1 : Int), Value.slice ssl.a ssl.len ssl.cap, Value.slice ss.a ss.len ss.cap]⟩, Value.bool true] })) R'))))) := fun {k put ss R'} e hk h3 l hss => by
      have ea : mStep c f x i (sl, st) = mAfter f.ins.length x i (sl, st) (k, if put = 0 then [] else [put]) := by simp only [mStep, e]; rfl
      have ep : putIf (st.take (st.length - k)) put = st.take (st.length - k) ++ (if put = 0 then [] else [put]) := by
        unfold putIf; split <;> simp
      refine put_tail hss (by simp; omega) (fun hle s R'' l' hs => ?_) fun hle => h0 ?_ R' (l02.trans l)
      · refine h1 (sl, putIf (st.take (st.length - k)) put) ?_ ssl s R'' ((l02.trans l).trans l') (hsl.mono ((l02.trans l).trans l')) hs
        rw [eo, ea, ep]
        rw [ep] at hle
        unfold mAfter
        rw [if_pos ⟨hk, hgo, hle⟩, if_neg h3]
      · rw [eo, ea]
        rw [ep] at hle
        unfold mAfter
        rw [if_neg fun y => hle y.2.2]
    have fin0 : ∀ {put : Int} {R' : Hp}, mGives c f.result x sl st = some (0, if put = 0 then [] else [put]) → x.1 ≠ 3 → R2.le R' →
        ((((put != (0 : Int)) = true) → (∃ xs : List Int, ((RSlice R' sst [Kd.int IntKind.i64] xs) ∧ ((List.length xs * (8 : Nat) ≤ (140737488355328 : Nat)) ∧ (((List.length xs + List.length (List.set (List.replicate (1 : Nat) (Tup.zero [Kd.int IntKind.i64])) (0 : Nat) put)) * (8 : Nat) ≤ (140737488355328 : Nat)) ∧ (((decide ((↑(List.length (xs ++ List.set (List.replicate (1 : Nat) (Tup.zero [Kd.int IntKind.i64])) (0 : Nat) put)) : Int) > (600 : Int)) = true) → (K (Ending.returned (Value.tuple { toList := [Value.agg ⟨[Value.int IntKind.i64 (0 : Int), Value.slice none (0 : Nat) (0 : Nat), Value.slice none (0 : Nat) (0 : Nat)]⟩, Value.bool false] })) R')) ∧ ((decide ((↑(List.length (xs ++ List.set (List.replicate (1 : Nat) (Tup.zero [Kd.int IntKind.i64])) (0 : Nat) put)) : Int) > (600 : Int)) = false) → (∀ s : Sl, (∀ R'_ : Hp, ((Frz R' R'_ s [Kd.int IntKind.i64] (xs ++ List.set (List.replicate (1 : Nat) (Tup.zero [Kd.int IntKind.i64])) (0 : Nat) put)) → (K (Ending.returned (Value.tuple { toList := [Value.agg ⟨[Value.int IntKind.i64 (1 : Int), Value.slice ssl.a ssl.len ssl.cap, Value.slice s.a s.len s.cap]⟩, Value.bool true] })) R'_))))))))))) ∧ (((put != (0 : Int)) = false) → (((decide ((↑sst.len : Int) > (600 : Int)) = true) → (K (Ending.returned (Value.tuple { toList := [Value.agg ⟨[Value.int IntKind.i64 (0 : Int), Value.slice none (0 : Nat) (0 : Nat), Value.slice none (0 : Nat) (0 : Nat)]⟩, Value.bool false] })) R')) ∧ ((decide ((↑sst.len : Int) > (600 : Int)) = false) → (K (Ending.returned (Value.tuple { toList := [Value.agg ⟨[Value.int IntKind.i64 (1 : Int), Value.slice ssl.a ssl.len ssl.cap, Value.slice sst.a sst.len sst.cap]⟩, Value.bool true] })) R'))))) := fun {put R'} e h3 l => fin (k := 0) e (by omega) h3 l (by rw [Nat.sub_zero, List.take_length]; exact hst.mono (l02.trans l))
    have hst2 := hst.mono l02
    have sub : ∀ (k : Nat), k ≤ st.length → RSlice R2 (sst.from (st.length - k) st.length 1) kI (st.drop (st.length - k)) ∧ RSlice R2 (sst.from 0 (st.length - k) 1) kI (st.take (st.length - k)) := fun k hk => by
      have a1 := hst2.sub (lo := st.length - k) (hi := st.length) (by omega) (Nat.le_refl _)
      have a2 := hst2.sub (lo := 0) (hi := st.length - k) (by omega) (by omega)
      rw [List.take_length] at a1
      rw [List.drop_zero] at a2
      exact ⟨a1, a2⟩
    have r2 := Hp.le.refl R2
    have none_ : ∀ {Q : Prop}, Option.isNone (⟨none, 0, 0⟩ : Sl).a = false → Q := fun h => by cases h
    refine ⟨fun o1 => fin0 ?_ (by simp at o1; omega) r2, fun o1 => ⟨fun o2 => ?_, fun o2 => ⟨fun o3 => ?_, fun o3 => ⟨fun o4 => ?_, fun o4 => ⟨fun o5 => ?_, fun o5 => ⟨fun o6 => ?_, fun o6 => ⟨fun o7 => ?_, fun o7 => ⟨fun o8 => ?_, fun o8 => ⟨fun o9 => ?_, fun o9 =>
      ⟨fun o11 => ?_, fun o11 => ⟨fun o12 => ?_, fun o12 => ⟨fun o13 => ?_, fun o13 => ⟨fun o15 => ?_, fun o15 => ⟨fun o14 => ?_, fun o14 => fin0 (put := 0) ?_ (by simpa using o3) r2⟩⟩⟩⟩⟩⟩⟩⟩⟩⟩⟩⟩⟩⟩ <;> simp only [beq_iff_eq, beq_eq_false_iff_ne, ne_eq] at o1 <;>
      (try simp only [beq_iff_eq, beq_eq_false_iff_ne, ne_eq] at o2) <;> (try simp only [beq_iff_eq, beq_eq_false_iff_ne, ne_eq] at o3) <;> (try simp only [beq_iff_eq, beq_eq_false_iff_ne, ne_eq] at o4) <;> (try simp only [beq_iff_eq, beq_eq_false_iff_ne, ne_eq] at o5) <;> (try simp only [beq_iff_eq, beq_eq_false_iff_ne, ne_eq] at o6) <;> (try simp only [beq_iff_eq, beq_eq_false_iff_ne, ne_eq] at o7) <;> (try simp only [beq_iff_eq, beq_eq_false_iff_ne, ne_eq] at o8) <;> (try simp only [beq_iff_eq, beq_eq_false_iff_ne, ne_eq] at o9) <;>
      (try simp only [beq_iff_eq, beq_eq_false_iff_ne, ne_eq] at o11) <;> (try simp only [beq_iff_eq, beq_eq_false_iff_ne, ne_eq] at o12) <;> (try simp only [beq_iff_eq, beq_eq_false_iff_ne, ne_eq] at o13) <;> (try simp only [beq_iff_eq, beq_eq_false_iff_ne, ne_eq] at o15) <;> (try simp only [beq_iff_eq, beq_eq_false_iff_ne, ne_eq] at o14)
    · have hv : 1 ≤ x.2.1 ∧ x.2.1 ≤ 10 := by
        unfold mInsOk at hio; rw [if_pos o1] at hio; exact validV_t hio
      rw [if_neg (by omega)]
      simp [mGives, mGiv, o1]
    · have ia := (insA hio (by omega)).1 (.inl o2)
      rw [wrap_in (by omega)] at ia
      have hk : x.2.1.toNat < sl.length := by omega
      have ge := hsl.get l02 hk
      rw [Int.toNat_of_nonneg ia.1] at ge
      have eg : mGives c f.result x sl st = tp1 (sl[x.2.1.toNat]) 0 := by unfold mGives; rw [if_pos o2, getD_at hk]
      refine ⟨_, ge, fun b => bad ?_ R2 r2, fun b => fin0 ?_ (by omega) r2⟩
      · rw [beq_iff_eq] at b
        rw [eg, tp1, if_pos b]
      · rw [beq_eq_false_iff_ne] at b
        rw [eg, tp1, if_neg b, if_neg b]
    · have ia := (insA hio (by omega)).1 (.inr o3)
      rw [wrap_in (by omega)] at ia
      have eg : mGives c f.result x sl st = if 0 < st.length then some (1, []) else none := by simp [mGives, mGiv, o3]
      refine c_take (n := 1) hst2 hg4 (by omega) (fun b => ⟨⟨none, 0, 0⟩, rfl, fun _ => bad (by rw [eg, if_neg (by omega)]) R2 r2, none_⟩) fun b => ⟨_, rfl, fun b2 => ?_, fun b2 => ?_⟩
      · exact absurd (b2.symm.trans (some_of_pos (sub 1 (by omega)).1 (by simp; omega))) (by decide)
      · have hk : x.2.1.toNat < sl.length := by omega
        have ge := (sub 1 (by omega)).1.get r2 (k := 0) (by simp; omega)
        have e0 : (st.drop (st.length - 1))[0]'(by simp; omega) = stAt st 0 := by
          have := drop_one (st := st) (by omega)
          simp only [this]; rfl
        rw [e0] at ge
        refine ⟨sl, hsl.mono l02, by omega, _, ge, by omega, by omega, _, List.getElem?_eq_getElem hk, fun s R3 f3 => h1 (sl.set x.2.1.toNat (stAt st 0), st.take (st.length - 1)) ?_ s _ R3 (l02.trans f3.le) f3.sl ((sub 1 (by omega)).2.mono f3.le)⟩
        rw [eo]
        simp only [mStep, eg, if_pos (show 0 < st.length by omega)]
        show some (mAfter _ _ _ _ _) = _
        unfold mAfter
        rw [if_pos ⟨by simp only; omega, hgo, by simp; omega⟩, if_pos o3, List.append_nil]
    · have eg : mGives c f.result x sl st = if 0 < st.length then some (1, []) else none := by simp [mGives, mGiv, o4]
      refine c_take (n := 1) hst2 hg4 (by omega) (fun b => ⟨⟨none, 0, 0⟩, rfl, fun _ => bad (by rw [eg, if_neg (by omega)]) R2 r2, none_⟩) fun b => ⟨_, rfl, fun b2 => ?_, fun b2 => ?_⟩
      · exact absurd (b2.symm.trans (some_of_pos (sub 1 (by omega)).1 (by simp; omega))) (by decide)
      · exact fin (k := 1) (put := 0) (by rw [eg, if_pos (by omega)]; rfl) (by omega) (by omega) r2 (sub 1 (by omega)).2
    · have eg : mGives c f.result x sl st = tp1 (mUn x.2.1 (stAt st 0)) 1 := by simp [mGives, mGiv, o5]
      have ia := (insA hio (by omega)).2.1 o5
      refine c_take (n := 1) hst2 hg4 (by omega) (fun b => ⟨⟨none, 0, 0⟩, rfl, fun _ => bad ?_ R2 r2, none_⟩) fun b => ⟨_, rfl, fun b2 => ?_, fun b2 => ?_⟩
      · rw [eg, stAt_lt (by omega)]
        rcases mUn_t (k := x.2.1) (t := 0) with h | h <;> rw [tp1, if_pos h]
      · exact absurd (b2.symm.trans (some_of_pos (sub 1 (by omega)).1 (by simp; omega))) (by decide)
      · have ge := (sub 1 (by omega)).1.get r2 (k := 0) (by simp; omega)
        have e0 : (st.drop (st.length - 1))[0]'(by simp; omega) = stAt st 0 := by
          have := drop_one (st := st) (by omega)
          simp only [this]; rfl
        rw [e0] at ge
        refine ⟨_, ge, c_impl_unType ia ⟨_, rfl, fun b3 => bad ?_ R2 r2, fun b3 => ⟨_, ge, fin (k := 1) ?_ (by omega) (by omega) r2 (sub 1 (by omega)).2⟩⟩⟩
        · rw [beq_iff_eq] at b3
          rw [eg, tp1, if_pos b3]
        · rw [beq_eq_false_iff_ne] at b3
          rcases mUn_t (k := x.2.1) (t := stAt st 0) with h | h
          · exact absurd h b3
          · rw [h] at b3
            rw [eg, h, tp1, if_neg b3, if_neg b3]
    · have eg : mGives c f.result x sl st = tp1 (mBin x.2.1 (stAt st 1) (stAt st 0)) 2 := by simp [mGives, mGiv, o6]
      have ia := (insA hio (by omega)).2.2.1 o6
      refine c_take (n := 2) hst2 hg4 (by omega) (fun b => ⟨⟨none, 0, 0⟩, rfl, fun _ => bad ?_ R2 r2, none_⟩) fun b => ⟨_, rfl, fun b2 => ?_, fun b2 => ?_⟩
      · rw [eg, stAt_lt (k := 1) (by omega)]
        have : mBin x.2.1 0 (stAt st 0) = 0 := by
          unfold mBin
          by_cases hh : (0 : Int) ≠ stAt st 0
          · rw [if_pos hh]
          · rw [if_neg hh, if_pos rfl]
        rw [tp1, if_pos this]
      · exact absurd (b2.symm.trans (some_of_pos (sub 2 (by omega)).1 (by simp; omega))) (by decide)
      · have ge := (sub 2 (by omega)).1.get r2 (k := 0) (by simp; omega)
        have ge2 := (sub 2 (by omega)).1.get r2 (k := 1) (by simp; omega)
        have d2 := drop_two (st := st) (by omega)
        have e0 : (st.drop (st.length - 2))[0]'(by simp; omega) = stAt st 1 := by simp only [d2]; rfl
        have e1 : (st.drop (st.length - 2))[1]'(by simp; omega) = stAt st 0 := by simp only [d2]; rfl
        rw [e0] at ge
        rw [e1] at ge2
        refine ⟨_, ge, _, ge2, c_impl_binType ia s1' ⟨_, rfl, fun b3 => bad ?_ R2 r2, fun b3 => fin (k := 2) ?_ (by omega) (by omega) r2 (sub 2 (by omega)).2⟩⟩
        · rw [beq_iff_eq] at b3
          rw [eg, tp1, if_pos b3]
        · rw [beq_eq_false_iff_ne] at b3
          rw [eg, tp1, if_neg b3, if_neg b3]
    · have eg : mGives c f.result x sl st = if mInt (stAt st 0) then some (1, [x.2.1]) else none := by simp [mGives, mGiv, o7]
      have ia := (insA hio (by omega)).2.2.2.1 o7
      refine c_take (n := 1) hst2 hg4 (by omega) (fun b => ⟨⟨none, 0, 0⟩, rfl, fun _ => bad ?_ R2 r2, none_⟩) fun b => ⟨_, rfl, fun b2 => ?_, fun b2 => ?_⟩
      · rw [eg, stAt_lt (by omega)]; rfl
      · exact absurd (b2.symm.trans (some_of_pos (sub 1 (by omega)).1 (by simp; omega))) (by decide)
      · have ge := (sub 1 (by omega)).1.get r2 (k := 0) (by simp; omega)
        have e0 : (st.drop (st.length - 1))[0]'(by simp; omega) = stAt st 0 := by
          have := drop_one (st := st) (by omega)
          simp only [this]; rfl
        rw [e0] at ge
        refine ⟨_, ge, c_impl_integer ⟨_, rfl, fun b3 => bad ?_ R2 r2, fun b3 => fin (k := 1) ?_ (by omega) (by omega) r2 (sub 1 (by omega)).2⟩⟩
        · simp at b3
          rw [eg, b3]; rfl
        · simp at b3
          rw [eg, b3, if_neg (show ¬ x.2.1 = 0 by omega)]; rfl
    · have ia := (insA hio (by omega)).2.2.2.2.1 o8
      have eg : mGives c f.result x sl st = if builtK x.2.1 ≤ st.length then tp1 (mBuilt x.2.1 (st.drop (st.length - builtK x.2.1))) (builtK x.2.1) else none := by simp [mGives, mGiv, o8]
      have b3 := bt_rng x.2.1
      have bk : builtK x.2.1 ≤ 3 := by simp only [builtK]; omega
      rw [builtN_eq]
      refine ⟨by omega, by show x.2.1 < 13; omega, _, builtN_at ia, ?_⟩
      refine c_take hst2 hg4 (by omega) (fun b => ⟨⟨none, 0, 0⟩, rfl, fun _ => ⟨fun _ => bad (by rw [eg, if_neg (by omega)]) R2 r2, none_⟩, fun b2 => ?_⟩) fun b => ⟨_, rfl, fun b2 => ⟨fun b4 => ?_, fun b4 => ?_⟩, fun b2 => ?_⟩
      · rw [dec_f] at b2; omega
      · rw [dec_t] at b2
        rw [Int.toNat_natCast, some_of_pos (sub (builtK x.2.1) (by omega)).1 (by simp; omega)] at b4; cases b4
      all_goals
        rw [Int.toNat_natCast]
        refine c_impl_builtType (g.mono l02) ia (fun t ht => hg3 t (List.mem_of_mem_drop ht)) (sub (builtK x.2.1) (by omega)).1 fun R3 l3 => ⟨_, rfl, fun b5 => bad ?_ R3 l3, fun b5 => fin (k := builtK x.2.1) ?_ (by omega) (by omega) l3 ((sub (builtK x.2.1) (by omega)).2.mono l3)⟩
        · rw [beq_iff_eq] at b5
          rw [eg, if_pos (by omega), tp1, if_pos b5]
        · rw [beq_eq_false_iff_ne] at b5
          rw [eg, if_pos (by omega), tp1, if_neg b5, if_neg b5]
    · have ia := (insA hio (by omega)).2.2.2.2.2.1 o9
      have cl := hc.len
      rw [wrap_in (by omega)] at ia
      have hk : x.2.1.toNat < c.length := by omega
      obtain ⟨t, e1, e2⟩ := hcs.get l02 hk
      rw [Int.toNat_of_nonneg ia.1] at e1
      have hgc : c[x.2.1.toNat]? = some c[x.2.1.toNat] := List.getElem?_eq_getElem hk
      generalize c[x.2.1.toNat] = gf at *
      have gp := (hc.head gf (List.mem_of_getElem? hgc)).1
      have eg : mGives c f.result x sl st = if takesOk gf.params st = true then some (gf.params.length, if gf.result = 0 then [] else [gf.result]) else none := by
        simp [mGives, mGiv, o9, hgc, takesOk]
      refine ⟨t, e1, c_takes hst2 e2.ps hg4 (by omega) (fun b d' R3 l3 => ⟨_, rfl, fun _ => bad (by rw [eg, b]; rfl) R3 l3, fun b2 => (by cases b2)⟩) fun b hle R3 l3 => ⟨_, rfl, fun b2 => (by cases b2), fun _ => ?_⟩⟩
      rw [e2.res]
      exact fin (k := gf.params.length) (by rw [eg, if_pos b]) hle (by omega) l3 ((sub gf.params.length hle).2.mono l3)
    · have eg : mGives c f.result x sl st = if takesOk [1] st = true then some (1, []) else none := by
        rw [takes_one (by omega)]; simp [mGives, mGiv, o11]
      exact fun s R3 f3 => c_takes (hst2.mono f3.le) f3.sl hg4 (by simp) (fun b d' R4 l4 => ⟨_, rfl, fun _ => bad (by rw [eg, b]; rfl) R4 (f3.le.trans l4), fun b2 => (by cases b2)⟩) fun b hle R4 l4 => ⟨_, rfl, fun b2 => (by cases b2), fun _ => fin (k := 1) (put := 0) (by rw [eg, if_pos b]; rfl) hle (by omega) (f3.le.trans l4) ((sub 1 hle).2.mono (f3.le.trans l4))⟩
    · have ia := (insA hio (by omega)).2.2.2.2.2.2.2 o12
      refine ⟨fun b0 => ?_, fun b0 => fin0 (put := 0) ?_ (by omega) r2⟩
      · rw [beq_iff_eq] at b0
        have hr0 : f.result ≠ 0 := by omega
        have eg : mGives c f.result x sl st = if takesOk [f.result] st = true then some (1, []) else none := by
          rw [takes_one hr0]
          have : (0 < st.length ∧ stAt st 0 = f.result) ↔ stAt st 0 = f.result := ⟨fun y => y.2, fun y => ⟨stAt_pos (by omega), y⟩⟩
          simp [mGives, mGiv, o12, b0, this]
        exact fun s R3 f3 => c_takes (hst2.mono f3.le) f3.sl hg4 (by simp) (fun b d' R4 l4 => ⟨_, rfl, fun _ => bad (by rw [eg, b]; rfl) R4 (f3.le.trans l4), fun b2 => (by cases b2)⟩) fun b hle R4 l4 => ⟨_, rfl, fun b2 => (by cases b2), fun _ => fin (k := 1) (put := 0) (by rw [eg, if_pos b]; rfl) hle (by omega) (f3.le.trans l4) ((sub 1 hle).2.mono (f3.le.trans l4))⟩
      · rw [beq_eq_false_iff_ne] at b0
        have : x.2.1 = 0 := by omega
        simp [mGives, mGiv, o12, this]
    · have eg : mGives c f.result x sl st = if takesOk [2] st = true then some (1, []) else none := by
        rw [takes_one (by omega)]; simp [mGives, mGiv, o13]
      exact fun s R3 f3 => c_takes (hst2.mono f3.le) f3.sl hg4 (by simp) (fun b d' R4 l4 => ⟨_, rfl, fun _ => bad (by rw [eg, b]; rfl) R4 (f3.le.trans l4), fun b2 => (by cases b2)⟩) fun b hle R4 l4 => ⟨_, rfl, fun b2 => (by cases b2), fun _ => fin (k := 1) (put := 0) (by rw [eg, if_pos b]; rfl) hle (by omega) (f3.le.trans l4) ((sub 1 hle).2.mono (f3.le.trans l4))⟩
    · have eg : mGives c f.result x sl st = if takesOk [2] st = true then some (1, []) else none := by
        rw [takes_one (by omega)]; simp [mGives, mGiv, o15]
      exact fun s R3 f3 => c_takes (hst2.mono f3.le) f3.sl hg4 (by simp) (fun b d' R4 l4 => ⟨_, rfl, fun _ => bad (by rw [eg, b]; rfl) R4 (f3.le.trans l4), fun b2 => (by cases b2)⟩) fun b hle R4 l4 => ⟨_, rfl, fun b2 => (by cases b2), fun _ => fin (k := 1) (put := 0) (by rw [eg, if_pos b]; rfl) hle (by omega) (f3.le.trans l4) ((sub 1 hle).2.mono (f3.le.trans l4))⟩
    · have eg : mGives c f.result x sl st = if takesOk [2, 2] st = true then some (2, []) else none := by
        rw [takes_two (by omega) (by omega)]; simp [mGives, mGiv, o14]
      exact fun s R3 f3 => c_takes (hst2.mono f3.le) f3.sl hg4 (by simp) (fun b d' R4 l4 => ⟨_, rfl, fun _ => bad (by rw [eg, b]; rfl) R4 (f3.le.trans l4), fun b2 => (by cases b2)⟩) fun b hle R4 l4 => ⟨_, rfl, fun b2 => (by cases b2), fun _ => fin (k := 2) (put := 0) (by rw [eg, if_pos b]; rfl) hle (by omega) (f3.le.trans l4) ((sub 2 hle).2.mono (f3.le.trans l4))⟩
    · simp [mGives, mGiv, o1, o2, o3, o4, o5, o6, o7, o8, o9, o11, o12, o13, o14, o15])
end Go.KE

/- Where two shapes come together. -/
namespace Go.KE
set_option maxRecDepth 100000

theorem mrg_get : ∀ {a b : List Int} {k : Nat} (_ : a.length = b.length) (h1 : k < a.length) (h2 : k < b.length) (h3 : k < (mrg a b).length), (mrg a b)[k] = if a[k] = b[k] then a[k] else 0
  | _ :: _, _ :: _, 0, _, _, _, _ => rfl
  | a :: l, b :: m, k + 1, hl, h1, h2, h3 => by
    simp only [mrg, List.getElem_cons_succ]
    exact mrg_get (by simpa using hl) _ _ _
theorem mrg_self : ∀ (a : List Int), mrg a a = a
  | [] => rfl
  | a :: l => by simp [mrg, mrg_self l]
theorem take_ne {m s : List Int} {k : Nat} (h1 : k < m.length) (h2 : k < s.length) : decide (m.take (k + 1) ≠ s.take (k + 1)) = (decide (m.take k ≠ s.take k) || decide (m[k] ≠ s[k])) := by
  rw [List.take_succ_eq_append_getElem h1, List.take_succ_eq_append_getElem h2, Bool.eq_iff_iff]
  simp only [decide_eq_true_eq, Bool.or_eq_true, ne_eq]
  constructor
  · intro h
    by_cases e : m.take k = s.take k
    · exact .inr fun e2 => h (by rw [e]; exact congrArg (fun z => s.take k ++ [z]) e2)
    · exact .inl e
  · intro h e
    have hl : (m.take k).length = (s.take k).length := by simp; omega
    have := List.append_inj e hl
    rcases h with h | h
    · exact h this.1
    · exact h (by simpa using this.2)
abbrev shV (t : Int × Sl × Sl) : Value := .agg #[.int .i64 t.1, t.2.1.val, t.2.2.val]
theorem kj {K : Ending → Hp → Prop} {R : Hp} {t : Int × Sl × Sl} {a b : Bool} (h : K (.returned (.tuple #[shV t, .bool a])) R) (e : a = b) : K (.returned (.tuple #[shV t, .bool b])) R := e ▸ h
theorem c_spec_l7Join {S : Nat} {ta tb : Int × Sl × Sl} {a b : Sh} {R : Hp} {K : Ending → Hp → Prop} (hS : S ≤ 200) (ga : a.Good S) (gb : b.Good S) (ha : RSh R ta a) (hb : RSh R tb b)
    (h : ∀ (t' : Int × Sl × Sl) R', R.le R' → RSh R' t' (a.join b) → K (.returned (.tuple #[shV t', .bool (decide (a.join b ≠ a))])) R') :
    CallsR P0 F_spec_l7Join #[shV ta, shV tb] R K := go_spec_l7Join (by
  obtain ⟨a1, a2, a3⟩ := ta
  obtain ⟨b1, b2, b3⟩ := tb
  unfold vc_spec_l7Join
  have rr := Hp.le.refl R
  match a, b, ga, gb, ha, hb with
  | a, none, _, _, ha, hb =>
    have hb : b1 = 0 := hb
    subst hb
    refine ⟨fun _ => kj (h (a1, a2, a3) R rr (by rw [show a.join none = a by cases a <;> (try cases ‹Option _›) <;> rfl]; exact ha)) ?_, fun x => (by cases x)⟩
    rw [show a.join none = a by cases a <;> (try cases ‹Option _›) <;> rfl]; simp
  | some none, some b, _, _, ha, hb =>
    have ha : a1 = 2 := ha
    subst ha
    have eb : (b1 == 0) = false := by
      cases b with
      | none => have : b1 = 2 := hb; subst this; rfl
      | some q => have : b1 = 1 := hb.1; subst this; rfl
    rw [eb]
    exact ⟨fun x => (by cases x), fun _ => ⟨fun _ => kj (h (2, a2, a3) R rr rfl) (by simp [Sh.join]), fun x => (by cases x)⟩⟩
  | none, some b, _, _, ha, hb =>
    have ha : a1 = 0 := ha
    subst ha
    have eb : (b1 == 0) = false := by
      cases b with
      | none => have : b1 = 2 := hb; subst this; rfl
      | some q => have : b1 = 1 := hb.1; subst this; rfl
    rw [eb]
    exact ⟨fun x => (by cases x), fun _ => ⟨fun x => (by cases x), fun _ => ⟨fun _ => kj (h (b1, b2, b3) R rr hb) (by simp [Sh.join]), fun x => (by cases x)⟩⟩⟩
  | some (some p), some none, _, _, ha, hb =>
    have ha : a1 = 1 := ha.1
    have hb : b1 = 2 := hb
    subst ha; subst hb
    exact ⟨fun x => (by cases x), fun _ => ⟨fun x => (by cases x), fun _ => ⟨fun x => (by cases x), fun _ => ⟨fun _ => kj (h (2, b2, b3) R rr rfl) (by simp [Sh.join]), fun x => (by cases x)⟩⟩⟩⟩
  | some (some p), some (some q), ga, gb, ha, hb =>
    obtain ⟨s1, t1⟩ := p
    obtain ⟨s2, t2⟩ := q
    have e1 : a1 = 1 := ha.1
    have e2 : b1 = 1 := hb.1
    subst e1; subst e2
    have hs1 : RSlice R a2 kI s1 := ha.2.1
    have ht1 : RSlice R a3 kI t1 := ha.2.2
    have hs2 : RSlice R b2 kI s2 := hb.2.1
    have ht2 : RSlice R b3 kI t2 := hb.2.2
    have g1 : s1.length = S := ga.1
    have g2 : s2.length = S := gb.1
    have g3 : t1.length ≤ 600 := ga.2.2.2
    refine ⟨fun x => (by cases x), fun _ => ⟨fun x => (by cases x), fun _ => ⟨fun x => (by cases x), fun _ => ⟨fun x => (by cases x), fun _ => c_spec_l7SameInts ht1 ht2 (by omega) fun R1 l1 => ⟨_, rfl, fun c1 => ?_, fun c1 => ?_⟩⟩⟩⟩⟩
    · have hne : ¬ t1 = t2 := by simpa using c1
      have ej : Sh.join (some (some (s1, t1))) (some (some (s2, t2))) = some none := by simp only [Sh.join]; rw [if_neg hne]
      exact kj (h (2, ⟨none, 0, 0⟩, ⟨none, 0, 0⟩) R1 l1 (by rw [ej]; rfl)) (by rw [ej]; simp)
    · have heq : t1 = t2 := by simpa using c1
      have ej : Sh.join (some (some (s1, t1))) (some (some (s2, t2))) = some (some (mrg s1 s2, t1)) := by simp only [Sh.join]; rw [if_pos heq]
      have hm := mrg_len (g1.trans g2.symm)
      rw [hs1.len]
      refine loop_upX s1.length 0 _ (fun k x _ => x.2.2.2.1 = (mrg s1 s2).take k ∧ x.1 = decide ((mrg s1 s2).take k ≠ s1.take k)) (fun k x => x.2.1 = (k : Int) ∧ x.2.2.1 = 1 ∧ x.2.2.2.2 = a3) ⟨rfl, rfl, rfl⟩ (by omega) ⟨rfl, rfl⟩ fun Inv k x R2 l2 hk hx hq hn => ?_
      obtain ⟨ch, ik, on, acc, sa⟩ := x
      obtain ⟨x1, x2, x3⟩ := hx
      obtain ⟨q1, q2⟩ := hq
      simp only at x1 x2 x3 q1 q2
      subst x1; subst x2; subst x3
      dsimp only
      refine ⟨fun d1 => ?_, fun d1 s R3 f3 => ?_⟩
      · have d1 : k < s1.length := by rw [dec_t] at d1; omega
        have d2 : k < s2.length := by omega
        have d3 : k < (mrg s1 s2).length := by omega
        have mg := mrg_get (g1.trans g2.symm) d1 d2 d3
        have tn := take_ne d3 d1
        have la : acc.length ≤ 200 := by rw [q1]; simp; omega
        have ta' := List.take_succ_eq_append_getElem d3
        refine ⟨_, hs1.get (l1.trans l2) d1, _, hs2.get (l1.trans l2) d2, fun d4 => ⟨fun d5 => ⟨?_, ?_⟩, fun d5 => ⟨?_, ?_⟩⟩, fun d4 => ⟨?_, ?_⟩⟩
        · simp; omega
        · rw [bne_iff_ne] at d4 d5
          rw [if_neg d4] at mg
          refine hn _ R2 d1 ⟨wrap_up (by omega), rfl, rfl⟩ ⟨?_, ?_⟩
          · rw [ta', mg, q1]; rfl
          · rw [tn, mg]
            have : decide ((0 : Int) ≠ s1[k]) = true := by simp; exact fun x => d5 x.symm
            rw [this, Bool.or_true]
        · simp; omega
        · rw [bne_iff_ne] at d4
          rw [bne_eq_false_iff_eq] at d5
          rw [if_neg d4] at mg
          have d5 : s1[k] = 0 := d5
          refine hn _ R2 d1 ⟨wrap_up (by omega), rfl, rfl⟩ ⟨?_, ?_⟩
          · rw [ta', mg, q1, ← d5]; rfl
          · rw [tn, mg, d5, q2]; simp
        · simp; omega
        · rw [bne_eq_false_iff_eq] at d4
          rw [if_pos d4] at mg
          refine hn _ R2 d1 ⟨wrap_up (by omega), rfl, rfl⟩ ⟨?_, ?_⟩
          · rw [ta', mg, q1]; rfl
          · rw [tn, mg, q2]; simp
      · have d1 : k = s1.length := by rw [dec_f] at d1; omega
        subst d1
        rw [List.take_length, List.take_of_length_le (by omega)] at q2
        rw [List.take_of_length_le (by omega)] at q1
        subst q1
        refine kj (h (1, s, sa) R3 ((l1.trans l2).trans f3.le) (by rw [ej]; exact ⟨rfl, f3.sl, ht1.mono ((l1.trans l2).trans f3.le)⟩)) ?_
        rw [q2, ej]
        exact dec_eq ⟨fun x y => x (by rw [y]), fun x y => x (by simpa using y)⟩)
theorem c_impl_join {S : Nat} {ta tb : Int × Sl × Sl} {a b : Sh} {R : Hp} {K : Ending → Hp → Prop} (hS : S ≤ 200) (ga : a.Good S) (gb : b.Good S) (ha : RSh R ta a) (hb : RSh R tb b)
    (h : ∀ (t' : Int × Sl × Sl) R', R.le R' → RSh R' t' (a.join b) → K (.returned (.tuple #[shV t', .bool (decide (a.join b ≠ a))])) R') :
    CallsR P0 F_impl_join #[shV ta, shV tb] R K := go_impl_join (by
  obtain ⟨a1, a2, a3⟩ := ta
  obtain ⟨b1, b2, b3⟩ := tb
  unfold vc_impl_join
  have rr := Hp.le.refl R
  match a, b, ga, gb, ha, hb with
  | some none, b, _, _, ha, hb =>
    have ha : a1 = 2 := ha
    subst ha
    have ej : Sh.join (some none) b = some none := by cases b <;> rfl
    exact ⟨fun _ => kj (h (2, a2, a3) R rr (by rw [ej]; rfl)) (by rw [ej]; simp), fun x => (by cases x)⟩
  | none, none, _, _, ha, hb =>
    have ha : a1 = 0 := ha
    have hb : b1 = 0 := hb
    subst ha; subst hb
    exact ⟨fun x => (by cases x), fun _ => ⟨fun _ => kj (h (0, a2, a3) R rr rfl) (by simp [Sh.join]), fun x => (by cases x)⟩⟩
  | some (some p), none, _, _, ha, hb =>
    have e : a1 = 1 := ha.1
    have hb : b1 = 0 := hb
    subst e; subst hb
    exact ⟨fun x => (by cases x), fun _ => ⟨fun _ => kj (h (1, a2, a3) R rr ha) (by simp [Sh.join]), fun x => (by cases x)⟩⟩
  | none, some b, _, _, ha, hb =>
    have ha : a1 = 0 := ha
    subst ha
    have eb : (b1 == 0) = false := by
      cases b with
      | none => have : b1 = 2 := hb; subst this; rfl
      | some q => have : b1 = 1 := hb.1; subst this; rfl
    rw [eb]
    exact ⟨fun x => (by cases x), fun _ => ⟨fun x => (by cases x), fun _ => ⟨fun _ => kj (h (b1, b2, b3) R rr hb) (by simp [Sh.join]), fun x => (by cases x)⟩⟩⟩
  | some (some p), some none, _, _, ha, hb =>
    have ha : a1 = 1 := ha.1
    have hb : b1 = 2 := hb
    subst ha; subst hb
    exact ⟨fun x => (by cases x), fun _ => ⟨fun x => (by cases x), fun _ => ⟨fun x => (by cases x), fun _ => ⟨fun _ => kj (h (2, ⟨none, 0, 0⟩, ⟨none, 0, 0⟩) R rr rfl) (by simp [Sh.join]), fun x => (by cases x)⟩⟩⟩⟩
  | some (some p), some (some q), ga, gb, ha, hb =>
    obtain ⟨s1, t1⟩ := p
    obtain ⟨s2, t2⟩ := q
    have e1 : a1 = 1 := ha.1
    have e2 : b1 = 1 := hb.1
    subst e1; subst e2
    have hs1 : RSlice R a2 kI s1 := ha.2.1
    have ht1 : RSlice R a3 kI t1 := ha.2.2
    have hs2 : RSlice R b2 kI s2 := hb.2.1
    have ht2 : RSlice R b3 kI t2 := hb.2.2
    have g1 : s1.length = S := ga.1
    have g2 : s2.length = S := gb.1
    have g3 : t1.length ≤ 600 := ga.2.2.2
    refine ⟨fun x => (by cases x), fun _ => ⟨fun x => (by cases x), fun _ => ⟨fun x => (by cases x), fun _ => ⟨fun x => (by cases x), fun _ => c_impl_sameInts ht1 ht2 (by omega) fun R1 l1 => ⟨_, rfl, fun c1 => ?_, fun c1 => ?_⟩⟩⟩⟩⟩
    · have hne : ¬ t1 = t2 := by simpa using c1
      have ej : Sh.join (some (some (s1, t1))) (some (some (s2, t2))) = some none := by simp only [Sh.join]; rw [if_neg hne]
      exact kj (h (2, ⟨none, 0, 0⟩, ⟨none, 0, 0⟩) R1 l1 (by rw [ej]; rfl)) (by rw [ej]; simp)
    · have heq : t1 = t2 := by simpa using c1
      have ej : Sh.join (some (some (s1, t1))) (some (some (s2, t2))) = some (some (mrg s1 s2, t1)) := by simp only [Sh.join]; rw [if_pos heq]
      have hm := mrg_len (g1.trans g2.symm)
      refine c_impl_sameInts (hs1.mono l1) (hs2.mono l1) (by omega) fun R2 l2 => ⟨_, rfl, fun c2 => ?_, fun c2 => ⟨s1, hs1.mono (l1.trans l2), by omega, ?_⟩⟩
      · have c2 : s1 = s2 := by simpa using c2
        have ej : Sh.join (some (some (s1, t1))) (some (some (s2, t2))) = some (some (s1, t1)) := by rw [ej, ← c2, mrg_self]
        exact kj (h (1, a2, a3) R2 (l1.trans l2) (by rw [ej]; exact ⟨rfl, hs1.mono (l1.trans l2), ht1.mono (l1.trans l2)⟩)) (by rw [ej]; simp)
      · refine loop_upX s1.length 0 _ (fun k x _ => x.1 = (mrg s1 s2).take k ++ s1.drop k ∧ x.2.1 = decide ((mrg s1 s2).take k ≠ s1.take k)) (fun k x => x.2.2 = (k : Int)) rfl (by omega) ⟨rfl, rfl⟩ fun Inv k x R3 l3 hk hx hq hn => ?_
        obtain ⟨cur, ch, ik⟩ := x
        obtain ⟨q1, q2⟩ := hq
        simp only at hx q1 q2
        subst hx
        have l03 := (l1.trans l2).trans l3
        dsimp only
        refine ⟨fun d1 => ?_, fun d1 s R4 f4 => ?_⟩
        · have d1 : k < s1.length := by rw [dec_t] at d1; omega
          have d2 : k < s2.length := by omega
          have d3 : k < (mrg s1 s2).length := by omega
          have mg := mrg_get (g1.trans g2.symm) d1 d2 d3
          have tn := take_ne d3 d1
          have ta' := List.take_succ_eq_append_getElem d3
          have da := List.drop_eq_getElem_cons d1
          have lt : ((mrg s1 s2).take k).length = k := by simp; omega
          have lc : cur.length = s1.length := by rw [q1, List.length_append, lt]; simp; omega
          have gc : cur[k]? = some s1[k] := by
            rw [q1, List.getElem?_append_right (by omega), lt, Nat.sub_self, da]; rfl
          have same : (mrg s1 s2)[k] = s1[k] → cur = (mrg s1 s2).take (k + 1) ++ s1.drop (k + 1) := fun e => by
            rw [ta', e, q1, da, List.append_assoc]; rfl
          have gs : ∀ {v : Int}, (mrg s1 s2)[k] = v → cur.set k v = (mrg s1 s2).take (k + 1) ++ s1.drop (k + 1) := fun {v} e => by
            rw [ta', e, q1, List.set_append_right _ _ (by omega), lt, Nat.sub_self, da, List.append_assoc]; rfl
          rw [Int.toNat_natCast]
          refine ⟨by omega, by simp only [lc]; omega, _, gc, _, hs2.get l03 d2, fun d4 => ⟨by omega, by simp only [lc]; omega, _, gc, fun d5 => ⟨by omega, by simp only [lc]; omega, _, gc, ?_⟩, fun d5 => ?_⟩, fun d4 => ?_⟩
          · rw [bne_iff_ne] at d4 d5
            rw [if_neg d4] at mg
            refine hn _ R3 d1 (wrap_up (by omega)) ⟨gs mg, ?_⟩
            rw [tn, mg]
            have : decide ((0 : Int) ≠ s1[k]) = true := by simp; exact fun x => d5 x.symm
            rw [this, Bool.or_true]
          · rw [bne_iff_ne] at d4
            rw [bne_eq_false_iff_eq] at d5
            have d5 : s1[k] = 0 := d5
            rw [if_neg d4] at mg
            refine hn _ R3 d1 (wrap_up (by omega)) ⟨same (by rw [mg, d5]), ?_⟩
            rw [tn, mg, d5, q2]; simp
          · rw [bne_eq_false_iff_eq] at d4
            rw [if_pos d4] at mg
            refine hn _ R3 d1 (wrap_up (by omega)) ⟨same mg, ?_⟩
            rw [tn, mg, q2]; simp
        · have d1 : k = s1.length := by rw [dec_f] at d1; omega
          subst d1
          rw [List.take_length, List.take_of_length_le (by omega)] at q2
          rw [List.take_of_length_le (by omega), List.drop_length, List.append_nil] at q1
          subst q1
          refine kj (h (1, s, a3) R4 (l03.trans f4.le) (by rw [ej]; exact ⟨rfl, f4.sl, ht1.mono (l03.trans f4.le)⟩)) ?_
          rw [q2, ej]
          exact dec_eq ⟨fun x y => x (by rw [y]), fun x y => x (by simpa using y)⟩)
end Go.KE
