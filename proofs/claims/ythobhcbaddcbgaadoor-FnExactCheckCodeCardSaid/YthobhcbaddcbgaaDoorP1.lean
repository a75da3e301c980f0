/- What the functions of the law answer: part 1. -/
import Derived.Test.YthobhcbaddcbgaaDoorV2
import Derived.IntWalk
/- Plain lemmas for the conditions of functions. -/
namespace Go.KE

theorem ba_list (a : ByteArray) : a.toList = a.data.toList := by
  have : ∀ (i : Nat) (r : List UInt8), ByteArray.toList.loop a i r = r.reverse ++ a.data.toList.drop i := by
    intro i
    induction h : a.size - i generalizing i with
    | zero =>
      intro r
      unfold ByteArray.toList.loop
      rw [if_neg (by omega), List.drop_of_length_le (by rw [Array.length_toList]; show a.size ≤ i; omega)]
      simp
    | succ m ih =>
      intro r
      unfold ByteArray.toList.loop
      rw [if_pos (by omega), ih (i + 1) (by omega)]
      have hi : i < a.data.toList.length := by rw [Array.length_toList]; show i < a.size; omega
      rw [List.drop_eq_getElem_cons hi]
      have : a.get! i = a.data.toList[i] := by
        have h2 : i < a.data.size := by show i < a.size; omega
        show a.data[i]! = _
        rw [getElem!_pos a.data i h2]; simp
      rw [this]
      simp
  unfold ByteArray.toList
  rw [this]
  simp
theorem ba_ext {a b : ByteArray} (h : a.data.toList = b.data.toList) : a = b := ByteArray.ext (Array.toList_inj.1 h)
theorem sEq_eq (a b : ByteArray) : sEq a b = decide (a = b) := by
  unfold sEq
  rw [ba_list, ba_list, Bool.eq_iff_iff]
  simp only [beq_iff_eq, decide_eq_true_eq]
  exact ⟨ba_ext, fun h => by rw [h]⟩
theorem sEq_true {a b : ByteArray} : sEq a b = true ↔ a = b := by rw [sEq_eq]; simp
theorem sEq_false {a b : ByteArray} : sEq a b = false ↔ a ≠ b := by rw [sEq_eq]; simp
theorem wrap_in {n : Int} (h : -9223372036854775808 ≤ n ∧ n ≤ 9223372036854775807) : IntKind.wrap .i64 n = n := IntWalk.i64_in n h
theorem wrap_up {k : Nat} (h : k < 9223372036854775807) : IntKind.wrap .i64 ((k : Int) + 1) = ((k + 1 : Nat) : Int) := by rw [wrap_in (by omega)]; rfl
/-- A loop that counts up. -/
theorem loop_up {R : Hp} (N k0 : Nat) (Q : Nat → Hp → Prop) {B : (Nat → Int → Hp → Prop) → Nat → Int → Hp → Prop} (hk : k0 ≤ N) (h0 : Q k0 R)
    (h : ∀ (Inv : Nat → Int → Hp → Prop) (k : Nat) (R' : Hp), R.le R' → k ≤ N → Q k R' → (∀ R'', k < N → Q (k + 1) R'' → ∃ n', n' < N - k ∧ Inv n' ((k + 1 : Nat) : Int) R'') → B Inv (N - k) (k : Int) R') :
    ∃ Inv : Nat → Int → Hp → Prop, (∃ n, Inv n (k0 : Int) R) ∧ ∀ n x R', R.le R' → Inv n x R' → B Inv n x R' := by
  refine ⟨fun n x R' => ∃ k : Nat, x = (k : Int) ∧ k ≤ N ∧ n = N - k ∧ Q k R', ⟨N - k0, k0, rfl, hk, rfl, h0⟩, ?_⟩
  rintro n x R' hl ⟨k, rfl, hkN, rfl, hq⟩
  exact h _ k R' hl hkN hq fun R'' hlt hq' => ⟨N - (k + 1), by omega, k + 1, rfl, by omega, rfl, hq'⟩
theorem RSlice.get {R R' : Hp} {s : Sl} {ks : List Kd} {xs : List (Tup ks)} (h : RSlice R s ks xs) (hl : R.le R') {k : Nat} (hk : k < xs.length) : RElem R' s ks (k : Int) xs[k] := (h.2.2 k xs[k] (List.getElem?_eq_getElem hk)).mono hl
theorem RSlice.len {R : Hp} {s : Sl} {ks : List Kd} {xs : List (Tup ks)} (h : RSlice R s ks xs) : (s.len : Int) = (xs.length : Int) := by rw [h.1]
theorem sAt_get {a : ByteArray} {k : Nat} (h : k < a.size) : sAt a (k : Int) a.data[k] := ⟨by omega, by simp⟩
theorem dec_t {p : Prop} [Decidable p] : decide p = true ↔ p := by simp
theorem dec_f {p : Prop} [Decidable p] : decide p = false ↔ ¬ p := by simp

theorem kb {K : Ending → Hp → Prop} {a b : Bool} {R : Hp} (h : K (.returned (.bool a)) R) (e : a = b) : K (.returned (.bool b)) R := e ▸ h
theorem ki {K : Ending → Hp → Prop} {k : IntKind} {a b : Int} {R : Hp} (h : K (.returned (.int k a)) R) (e : a = b) : K (.returned (.int k b)) R := e ▸ h
theorem kv {K : Ending → Hp → Prop} {a b : Value} {R : Hp} (h : K (.returned a) R) (e : a = b) : K (.returned b) R := e ▸ h
theorem dec_eq {p q : Prop} [Decidable p] [Decidable q] (h : p ↔ q) : decide p = decide q := by simp [h]

/-! Letters, digits. -/
def mLetter (c : Int) : Bool := decide (97 ≤ c ∧ c ≤ 122)
def mDigit (c : Int) : Bool := decide (48 ≤ c ∧ c ≤ 57)
def mTail (c : Int) : Bool := mLetter c || mDigit c || decide (c = 95)
theorem c_spec_l1Letter {c : Int} {R : Hp} {K : Ending → Hp → Prop} (h : K (.returned (.bool (mLetter c))) R) : CallsR P0 F_spec_l1Letter #[.int .u8 c] R K := go_spec_l1Letter (by
  unfold vc_spec_l1Letter
  refine ⟨fun h1 => kb h ?_, fun h1 => kb h ?_⟩ <;> (simp at h1; simp [mLetter]; omega))
theorem c_impl_lower {c : Int} {R : Hp} {K : Ending → Hp → Prop} (h : K (.returned (.bool (mLetter c))) R) : CallsR P0 F_impl_lower #[.int .u8 c] R K := go_impl_lower (by
  unfold vc_impl_lower
  refine ⟨fun h1 => kb h ?_, fun h1 => kb h ?_⟩ <;> (simp at h1; simp [mLetter]; omega))
theorem c_spec_l1Digit {c : Int} {R : Hp} {K : Ending → Hp → Prop} (h : K (.returned (.bool (mDigit c))) R) : CallsR P0 F_spec_l1Digit #[.int .u8 c] R K := go_spec_l1Digit (by
  unfold vc_spec_l1Digit
  refine ⟨fun h1 => kb h ?_, fun h1 => kb h ?_⟩ <;> (simp at h1; simp [mDigit]; omega))
theorem c_impl_digit {c : Int} {R : Hp} {K : Ending → Hp → Prop} (h : K (.returned (.bool (mDigit c))) R) : CallsR P0 F_impl_digit #[.int .u8 c] R K := go_impl_digit (by
  unfold vc_impl_digit
  refine ⟨fun h1 => kb h ?_, fun h1 => kb h ?_⟩ <;> (simp at h1; simp [mDigit]; omega))
theorem c_spec_l1Tail {c : Int} {R : Hp} {K : Ending → Hp → Prop} (h : K (.returned (.bool (mTail c))) R) : CallsR P0 F_spec_l1Tail #[.int .u8 c] R K := go_spec_l1Tail (by
  unfold vc_spec_l1Tail
  refine c_spec_l1Letter ⟨_, rfl, fun h1 => kb h ?_, fun h1 => c_spec_l1Digit ⟨_, rfl, fun h2 => kb h ?_, fun h2 => kb h ?_⟩⟩ <;> simp_all [mTail] <;> rfl)
theorem c_impl_wordy {c : Int} {R : Hp} {K : Ending → Hp → Prop} (h : K (.returned (.bool (mTail c))) R) : CallsR P0 F_impl_wordy #[.int .u8 c] R K := go_impl_wordy (by
  unfold vc_impl_wordy
  refine c_impl_lower ⟨_, rfl, fun h1 => kb h ?_, fun h1 => c_impl_digit ⟨_, rfl, fun h2 => kb h ?_, fun h2 => kb h ?_⟩⟩ <;> simp_all [mTail] <;> rfl)
end Go.KE

/- Words. -/
namespace Go.KE

def twL : List ByteArray := [⟨#[]⟩, ⟨#[98, 111, 111, 108]⟩, ⟨#[116, 101, 120, 116]⟩, ⟨#[117, 56]⟩, ⟨#[117, 49, 54]⟩, ⟨#[117, 51, 50]⟩, ⟨#[117, 54, 52]⟩, ⟨#[105, 56]⟩, ⟨#[105, 49, 54]⟩, ⟨#[105, 51, 50]⟩, ⟨#[105, 54, 52]⟩]
def tyW (t : Int) : ByteArray := if 0 ≤ t then twL.getD t.toNat ⟨#[]⟩ else ⟨#[]⟩
def tyFrom : Nat → Nat → ByteArray → Int
  | 0, _, _ => 0
  | m + 1, k, s => if twL.getD k ⟨#[]⟩ = s then k else tyFrom m (k + 1) s
/-- The type of a word, 0 if it is none. -/
def tyOf (s : ByteArray) : Int := tyFrom 10 1 s
theorem tyFrom_nn (m k : Nat) (s : ByteArray) : 0 ≤ tyFrom m k s := by
  induction m generalizing k with
  | zero => exact Int.le_refl 0
  | succ m ih => exact (by simp only [tyFrom]; split <;> first | omega | exact ih _)
theorem c_spec_l1TypeWord {t : Int} {R : Hp} {K : Ending → Hp → Prop} (h : K (.returned (.string (tyW t))) R) : CallsR P0 F_spec_l1TypeWord #[.int .i64 t] R K := go_spec_l1TypeWord (by
  unfold vc_spec_l1TypeWord
  iterate 10 (refine ⟨fun h1 => by simp at h1; subst h1; exact h, fun h1 => ?_⟩; simp at h1)
  refine kv h ?_
  congr 1
  unfold tyW
  split
  · have : ∃ n : Nat, t = (n : Int) := ⟨t.toNat, by omega⟩
    obtain ⟨n, rfl⟩ := this
    match n with
    | 0 => rfl
    | n + 11 => rfl
    | 1 | 2 | 3 | 4 | 5 | 6 | 7 | 8 | 9 | 10 => omega
  · rfl)
theorem c_spec_l1Type {s : ByteArray} {R : Hp} {K : Ending → Hp → Prop} (h : ∀ R', R.le R' → K (.returned (.int .i64 (tyOf s))) R') : CallsR P0 F_spec_l1Type #[.string s] R K := go_spec_l1Type (by
  unfold vc_spec_l1Type
  refine loop_up 11 1 (fun k R' => tyOf s = tyFrom (11 - k) k s) (by omega) rfl fun Inv k R' hl hk hq hn => ⟨fun h1 => ?_, fun h1 => ?_⟩
  · have h1 : k ≤ 10 := by simp at h1; omega
    refine c_spec_l1TypeWord ⟨_, rfl, fun h2 => ?_, fun h2 => ?_⟩
    all_goals
      obtain ⟨m, hm⟩ : ∃ m, 11 - k = m + 1 := ⟨10 - k, by omega⟩
      rw [hm] at hq
      have e : tyW (k : Int) = twL.getD k ⟨#[]⟩ := by unfold tyW; rw [if_pos (by omega)]; rfl
      rw [e] at h2
    · rw [sEq_true] at h2
      refine ki (h R' hl) ?_
      rw [hq]; simp only [tyFrom]; rw [if_pos h2]
    · rw [sEq_false] at h2
      obtain ⟨n', hn1, hn2⟩ := hn R' (by omega) (by
        rw [hq]; simp only [tyFrom]; rw [if_neg h2]; congr 1; omega)
      exact ⟨n', hn1, by rw [wrap_up (by omega)]; exact hn2⟩
  · have h1 : ¬ k ≤ 10 := by simp at h1; omega
    refine ki (h R' hl) ?_
    rw [hq, show 11 - k = 0 by omega]; rfl)
def btL : List (ByteArray × Int) := [(⟨#[]⟩, 0), (⟨#[114, 101, 97, 100]⟩, 1), (⟨#[104, 97, 115]⟩, 1), (⟨#[108, 105, 115, 116]⟩, 1), (⟨#[116, 111, 111, 108]⟩, 2), (⟨#[97, 114, 103]⟩, 0), (⟨#[108, 101, 110]⟩, 1), (⟨#[97, 116]⟩, 2), (⟨#[99, 117, 116]⟩, 3), (⟨#[102, 105, 110, 100]⟩, 2), (⟨#[99, 104, 114]⟩, 1), (⟨#[100, 101, 99]⟩, 1), (⟨#[110, 117, 109]⟩, 1)]
def bt (t : Int) : ByteArray × Int := if 0 ≤ t then btL.getD t.toNat (⟨#[]⟩, 0) else (⟨#[]⟩, 0)
theorem c_spec_l1BuiltWord {t : Int} {R : Hp} {K : Ending → Hp → Prop} (h : K (.returned (.tuple #[.string (bt t).1, .int .i64 (bt t).2])) R) : CallsR P0 F_spec_l1BuiltWord #[.int .i64 t] R K := go_spec_l1BuiltWord (by
  unfold vc_spec_l1BuiltWord
  iterate 12 (refine ⟨fun h1 => by simp at h1; subst h1; exact h, fun h1 => ?_⟩; simp at h1)
  have e : bt t = (⟨#[]⟩, 0) := by
    unfold bt
    split
    · have : ∃ n : Nat, t = (n : Int) := ⟨t.toNat, by omega⟩
      obtain ⟨n, rfl⟩ := this
      match n with
      | 0 => rfl
      | n + 13 => rfl
      | 1 | 2 | 3 | 4 | 5 | 6 | 7 | 8 | 9 | 10 | 11 | 12 => omega
    · rfl
  rw [e] at h
  exact h)
def plL : List ByteArray := [⟨#[102, 110]⟩, ⟨#[108, 101, 116]⟩, ⟨#[105, 102]⟩, ⟨#[101, 108, 115, 101]⟩, ⟨#[119, 104, 105, 108, 101]⟩, ⟨#[98, 114, 101, 97, 107]⟩, ⟨#[99, 111, 110, 116, 105, 110, 117, 101]⟩, ⟨#[114, 101, 116, 117, 114, 110]⟩, ⟨#[102, 97, 105, 108]⟩, ⟨#[119, 114, 105, 116, 101]⟩, ⟨#[115, 97, 121]⟩, ⟨#[116, 114, 117, 101]⟩, ⟨#[102, 97, 108, 115, 101]⟩]
theorem c_spec_l1Plain {R : Hp} {K : Ending → Hp → Prop} (h : ∀ s R', R.le R' → RSlice R' s [.str] plL → K (.returned s.val) R') : CallsR P0 F_spec_l1Plain #[] R K := go_spec_l1Plain (by
  unfold vc_spec_l1Plain
  exact fun s R' hf => h s R' hf.le hf.sl)
def inL (l : List ByteArray) (s : ByteArray) : Bool := l.any fun x => decide (x = s)
theorem inL_iff {l : List ByteArray} {s : ByteArray} : inL l s = true ↔ s ∈ l := by
  unfold inL
  rw [List.any_eq_true]
  exact ⟨fun ⟨x, hx, e⟩ => by simp at e; exact e ▸ hx, fun h => ⟨s, h, by simp⟩⟩
theorem inL_not {l : List ByteArray} {s : ByteArray} (h : s ∉ l) : inL l s = false := by
  cases e : inL l s with
  | false => rfl
  | true => exact absurd (inL_iff.1 e) h
def btW : List ByteArray := (List.range' 1 12).map fun k : Nat => (bt (k : Int)).1
def taken (s : ByteArray) : Bool := decide (tyOf s ≠ 0) || inL btW s || inL plL s
theorem mem_upto {α : Type} {l : List α} {a : α} (h : ∀ k (hk : k < l.length), l[k] ≠ a) : a ∉ l := fun hm => by
  obtain ⟨k, hk, e⟩ := List.getElem_of_mem hm
  exact h k hk e
theorem c_spec_l1Taken {s : ByteArray} {R : Hp} {K : Ending → Hp → Prop} (h : ∀ R', R.le R' → K (.returned (.bool (taken s))) R') : CallsR P0 F_spec_l1Taken #[.string s] R K := go_spec_l1Taken (by
  unfold vc_spec_l1Taken
  refine c_spec_l1Type fun R1 l1 => ⟨_, rfl, fun h1 => ?_, fun h1 => ?_⟩
  · have h1 : tyOf s ≠ 0 := by simpa using h1
    exact kb (h R1 l1) (by simp [taken, h1])
  · have h1 : tyOf s = 0 := by simpa using h1
    refine loop_up 13 1 (fun k _ => 1 ≤ k ∧ ∀ j : Nat, 1 ≤ j → j < k → (bt (j : Int)).1 ≠ s) (by omega) ⟨by omega, fun j a b => by omega⟩ fun Inv k R2 l2 hk hq hn => ⟨fun h2 => ?_, fun h2 => ?_⟩
    · have h2 : k ≤ 12 := by simp at h2; omega
      refine c_spec_l1BuiltWord ⟨_, _, rfl, fun h3 => ?_, fun h3 => ?_⟩
      · rw [sEq_true] at h3
        refine kb (h R2 (l1.trans l2)) ?_
        have hm : inL btW s = true := inL_iff.2 (List.mem_map.2 ⟨k, by simp; omega, h3⟩)
        simp [taken, hm]
      · rw [sEq_false] at h3
        obtain ⟨n', hn1, hn2⟩ := hn R2 (by omega) ⟨by omega, fun j a b => by
          rcases Nat.lt_or_ge j k with c | c
          · exact hq.2 j a c
          · rw [show j = k by omega]; exact h3⟩
        exact ⟨n', hn1, by rw [wrap_up (by omega)]; exact hn2⟩
    · have h2 : ¬ k ≤ 12 := by simp at h2; omega
      refine c_spec_l1Plain fun sl R3 l3 hs => ⟨_, rfl, ?_⟩
      refine loop_up plL.length 0 (fun k _ => ∀ j (hj : j < plL.length), j < k → plL[j] ≠ s) (by omega) (fun j a b => by omega) fun Inv j R4 l4 hj hq2 hn => ⟨fun h4 => ?_, fun h4 => ?_⟩
      · have h4 : j < plL.length := by rw [hs.len] at h4; simp at h4; omega
        refine ⟨_, hs.get l4 h4, fun h5 => ?_, fun h5 => ?_⟩
        · rw [sEq_true] at h5
          refine kb (h R4 (((l1.trans l2).trans l3).trans l4)) ?_
          have : inL plL s = true := inL_iff.2 (h5 ▸ List.getElem_mem _)
          simp [taken, this]
        · rw [sEq_false] at h5
          obtain ⟨n', hn1, hn2⟩ := hn R4 (by omega) (fun i a b => by
            rcases Nat.lt_or_ge i j with c | c
            · exact hq2 i a c
            · have e : i = j := by omega
              subst e; exact h5)
          exact ⟨n', hn1, by rw [wrap_up (by have : plL.length = 13 := rfl; omega)]; exact hn2⟩
      · have h4 : ¬ j < plL.length := by rw [hs.len] at h4; simp at h4; omega
        refine kb (h R4 (((l1.trans l2).trans l3).trans l4)) ?_
        have p1 : inL plL s = false := inL_not (mem_upto fun i hi => hq2 i hi (by omega))
        have p2 : inL btW s = false := inL_not fun hm => by
          obtain ⟨i, hi, e⟩ := List.mem_map.1 hm
          simp at hi
          exact hq.2 i (by omega) (by omega) e
        simp [taken, h1, p1, p2])
def tailsOk (s : ByteArray) (k : Nat) : Bool := (s.data.toList.take k).all fun c => mTail c.toNat
theorem tailsOk_succ {s : ByteArray} {k : Nat} (h : k < s.size) : tailsOk s (k + 1) = (tailsOk s k && mTail s.data[k].toNat) := by
  unfold tailsOk
  rw [List.take_succ_eq_append_getElem (by simpa using h), List.all_append]
  simp
/-- A name. -/
def nameOk (s : ByteArray) : Bool := decide (1 ≤ s.size ∧ s.size ≤ 30) && (match s.data[0]? with | some c => mLetter c.toNat | none => false) && !taken s && tailsOk s s.size
theorem c_spec_l1NameOk {s : ByteArray} {R : Hp} {K : Ending → Hp → Prop} (h : ∀ R', R.le R' → K (.returned (.bool (nameOk s))) R') : CallsR P0 F_spec_l1NameOk #[.string s] R K := go_spec_l1NameOk (by
  unfold vc_spec_l1NameOk
  refine ⟨fun h1 => kb (h R (Hp.le.refl R)) ?_, fun h1 => ⟨fun h2 => kb (h R (Hp.le.refl R)) ?_, fun h2 => ?_⟩⟩
  · simp at h1; unfold nameOk; simp; omega
  · simp at h1 h2; unfold nameOk; simp; omega
  · simp at h1 h2
    have hs : 0 < s.size := by omega
    have e0 : s.data[0]? = some s.data[0] := by simp [hs]
    have hr : decide (1 ≤ s.size ∧ s.size ≤ 30) = true := by simp; omega
    refine ⟨_, sAt_get (k := 0) hs, c_spec_l1Letter ⟨_, rfl, fun h3 => kb (h R (Hp.le.refl R)) ?_, fun h3 => c_spec_l1Taken fun R1 l1 => ⟨_, rfl, fun h4 => kb (h R1 l1) ?_, fun h4 => ?_⟩⟩⟩
    · simp at h3; simp [nameOk, e0, h3]
    · simp [nameOk, h4]
    · refine loop_up s.size 0 (fun k _ => tailsOk s k = true) (by omega) (by simp [tailsOk]) fun Inv k R2 l2 hk hq hn => ⟨fun h5 => ?_, fun h5 => ?_⟩
      · have h5 : k < s.size := by simp at h5; omega
        refine ⟨_, sAt_get h5, c_spec_l1Tail ⟨_, rfl, fun h6 => kb (h R2 (l1.trans l2)) ?_, fun h6 => ?_⟩⟩
        · have : tailsOk s s.size = false := by
            cases e : tailsOk s s.size with
            | false => rfl
            | true =>
              unfold tailsOk at e
              rw [List.all_eq_true] at e
              have := e s.data[k] (by rw [List.take_of_length_le (by simp)]; simp)
              simp at h6
              rw [h6] at this; cases this
          simp [nameOk, this]
        · obtain ⟨n', hn1, hn2⟩ := hn R2 h5 (by rw [tailsOk_succ h5, hq]; simpa using h6)
          exact ⟨n', hn1, by rw [wrap_up (by omega)]; exact hn2⟩
      · have h5 : k = s.size := by simp at h5; omega
        refine kb (h R2 (l1.trans l2)) ?_
        simp at h3
        rw [h5] at hq
        simp [nameOk, e0, h3, h4, hq, hr])
end Go.KE

/- The words that a text of words holds. -/
namespace Go.KE
set_option maxRecDepth 100000

def spT (k : Nat) : Int := if k = 9 ∨ k = 10 ∨ k = 11 ∨ k = 12 ∨ k = 13 ∨ k = 32 then 1 else 0
def bgL : List Int := [0, 2, 1, 2, 2, 2, 10, 3, 2, 10, 2, 2, 10]
/-- The package's variables. -/
structure Glob (R : Hp) : Prop where
  tw : ∃ s : Sl, RPtr R (some ⟨2, 0, none⟩) [.sl] s ∧ RSlice R s [.str] twL
  bg : ∃ s : Sl, RPtr R (some ⟨0, 0, none⟩) [.sl] s ∧ RSlice R s [.int .i64] bgL
  sp : ∀ k, k < 256 → RPtr R (some ⟨1, k, none⟩) [.int .u8] (spT k)
theorem Glob.mono {R R' : Hp} (g : Glob R) (h : R.le R') : Glob R' := by
  obtain ⟨s, h1, h2⟩ := g.tw
  obtain ⟨s', h3, h4⟩ := g.bg
  exact ⟨⟨s, h1.mono h, h2.mono h⟩, ⟨s', h3.mono h, h4.mono h⟩, fun k hk => (g.sp k hk).mono h⟩
def fS : ByteArray := ⟨#[102, 110, 32, 108, 101, 116, 32, 105, 102, 32, 101, 108, 115, 101, 32, 119, 104, 105, 108, 101, 32, 98, 114, 101, 97, 107, 32, 99, 111, 110, 116, 105, 110, 117, 101, 32, 114, 101, 116, 117, 114, 110, 32, 102, 97, 105, 108, 32, 119, 114, 105, 116, 101, 32, 115, 97, 121, 32, 116, 114, 117, 101, 32, 102, 97, 108, 115, 101, 32, 114, 101, 97, 100, 32, 104, 97, 115, 32, 108, 105, 115, 116, 32, 116, 111, 111, 108, 32, 97, 114, 103, 32, 108, 101, 110, 32, 97, 116, 32, 99, 117, 116, 32, 102, 105, 110, 100, 32, 99, 104, 114, 32, 100, 101, 99, 32, 110, 117, 109]⟩
def fL : List ByteArray := [⟨#[102, 110]⟩, ⟨#[108, 101, 116]⟩, ⟨#[105, 102]⟩, ⟨#[101, 108, 115, 101]⟩, ⟨#[119, 104, 105, 108, 101]⟩, ⟨#[98, 114, 101, 97, 107]⟩, ⟨#[99, 111, 110, 116, 105, 110, 117, 101]⟩, ⟨#[114, 101, 116, 117, 114, 110]⟩, ⟨#[102, 97, 105, 108]⟩, ⟨#[119, 114, 105, 116, 101]⟩, ⟨#[115, 97, 121]⟩, ⟨#[116, 114, 117, 101]⟩, ⟨#[102, 97, 108, 115, 101]⟩, ⟨#[114, 101, 97, 100]⟩, ⟨#[104, 97, 115]⟩, ⟨#[108, 105, 115, 116]⟩, ⟨#[116, 111, 111, 108]⟩, ⟨#[97, 114, 103]⟩, ⟨#[108, 101, 110]⟩, ⟨#[97, 116]⟩, ⟨#[99, 117, 116]⟩, ⟨#[102, 105, 110, 100]⟩, ⟨#[99, 104, 114]⟩, ⟨#[100, 101, 99]⟩, ⟨#[110, 117, 109]⟩]
def step1 (x : Int × Int × Int × Int) (c : UInt8) : Int × Int × Int × Int :=
  (IntKind.wrap .i64 (x.1 + IntKind.wrap .i64 (↑(BitVec.toNat (BitVec.ofInt (IntKind.bits .i64) x.2.1 &&& BitVec.ofInt (IntKind.bits .i64) (IntKind.wrap .i64 (↑(BitVec.toNat (BitVec.ofInt (IntKind.bits .i64) (if IntKind.signed .i64 = true then -1 else IntKind.max .i64) ^^^ BitVec.ofInt (IntKind.bits .i64) (IntKind.wrap .i64 (spT c.toNat)))) : Int)))) : Int)),
    IntKind.wrap .i64 (spT c.toNat), IntKind.wrap .u8 (↑(BitVec.toNat (BitVec.ofInt (IntKind.bits .u8) x.2.2.1 ||| BitVec.ofInt (IntKind.bits .u8) (↑(UInt8.toNat c) : Int))) : Int), IntKind.wrap .i64 (x.2.2.2 + 1))
def st1 : Nat → Int × Int × Int × Int
  | 0 => (0, 1, 0, 0)
  | k + 1 => step1 (st1 k) (fS.data.getD k 0)
theorem st1_end : st1 119 = (25, 0, 127, 119) := by kernel_rfl
theorem st1_i : ∀ k, k ≤ 119 → (st1 k).2.2.2 = (k : Int)
  | 0, _ => rfl
  | k + 1, h => by
    show IntKind.wrap .i64 ((st1 k).2.2.2 + 1) = _
    rw [st1_i k (by omega), wrap_up (by omega)]
abbrev FSt := List ByteArray × Int × Int × Int
def step3 (x : FSt) : FSt :=
  if spT (fS.data.getD x.2.2.2.toNat 0).toNat = 0 then (x.1, x.2.1, x.2.2.1, IntKind.wrap .i64 (x.2.2.2 + 1))
  else (x.1.set x.2.1.toNat (fS.extract x.2.2.1.toNat x.2.2.2.toNat), IntKind.wrap .i64 (x.2.1 + 1), IntKind.wrap .i64 (x.2.2.2 + 1), IntKind.wrap .i64 (x.2.2.2 + 1))
def st3 : Nat → FSt
  | 0 => (List.replicate 25 ⟨#[]⟩, 0, 0, 0)
  | k + 1 => step3 (st3 k)
theorem st3_i : ∀ k, k ≤ 119 → (st3 k).2.2.2 = (k : Int)
  | 0, _ => rfl
  | k + 1, h => by
    show (step3 (st3 k)).2.2.2 = _
    unfold step3
    split <;> (show IntKind.wrap .i64 ((st3 k).2.2.2 + 1) = _; rw [st3_i k (by omega), wrap_up (by omega)])
def chk3 (k : Nat) : Bool := decide (0 ≤ (st3 k).2.2.1 ∧ (st3 k).2.2.1 ≤ (k : Int) ∧ 0 ≤ (st3 k).2.1 ∧ (st3 k).2.1 < 25) && (spT (fS.data.getD k 0).toNat == 0 || spT (fS.data.getD (k + 1) 0).toNat == 0 && decide (k + 1 < 119))
theorem chk3_all : (List.range 120).all chk3 = true := by kernel_rfl
theorem chk3_at {k : Nat} (h : k ≤ 119) : chk3 k = true := by
  have := chk3_all
  rw [List.all_eq_true] at this
  exact this k (by simp; omega)
theorem st3_len : ∀ k, (st3 k).1.length = 25
  | 0 => rfl
  | k + 1 => by
    show (step3 (st3 k)).1.length = 25
    unfold step3
    split
    · exact st3_len k
    · simp [st3_len k]
theorem st3_end : (st3 119).2.2.1 < 119 ∧ (st3 119).1.set (st3 119).2.1.toNat (fS.extract (st3 119).2.2.1.toNat 119) = fL := by
  constructor
  · have e : (st3 119).2.2.1 = 116 := by kernel_rfl
    rw [e]; omega
  · kernel_rfl
end Go.KE

/- The words that a text of words holds: the walk; names. -/
namespace Go.KE
set_option maxRecDepth 100000

theorem fS_size : fS.size = 119 := rfl
theorem spT_01 (k : Nat) : spT k = 0 ∨ spT k = 1 := by unfold spT; split <;> simp
theorem fS_get {k : Nat} (h : k < fS.size) : fS.data.getD k 0 = fS.data[k] := by
  have : k < fS.data.size := h
  exact dif_pos this
theorem sAtD {k : Nat} (h : k < fS.size) : sAt fS (k : Int) (fS.data.getD k 0) := by rw [fS_get h]; exact sAt_get h
theorem spT_wrap (k : Nat) : IntKind.wrap .i64 (spT k) = spT k := wrap_in (by rcases spT_01 k with h | h <;> rw [h] <;> omega)
theorem Glob.at {R : Hp} (g : Glob R) (c : UInt8) : RPtr R (some ⟨1, 0 + Int.toNat (↑(UInt8.toNat c) : Int) * 1, none⟩) [.int .u8] (spT c.toNat) := by
  have e : 0 + Int.toNat (↑(UInt8.toNat c) : Int) * 1 = c.toNat := by omega
  rw [e]
  exact g.sp _ c.toNat_lt
theorem c_Fields {R : Hp} {K : Ending → Hp → Prop} (g : Glob R) (h : ∀ s R', R.le R' → RSlice R' s [.str] fL → K (.returned s.val) R') : CallsR P0 F_strings_Fields #[.string fS] R K := go_strings_Fields (by
  unfold vc_strings_Fields
  refine ⟨fun n x R' => ∃ k, k ≤ 119 ∧ x = st1 k ∧ n = 119 - k, ⟨119, 0, by omega, rfl, rfl⟩, ?_⟩
  rintro n x R1 l1 ⟨k, hk, rfl, rfl⟩
  rw [st1_i k hk]
  refine ⟨fun h1 => ?_, fun h1 => ?_⟩
  · have h1 : k < fS.size := by simp at h1; omega
    have h1' : k < 119 := h1
    refine ⟨_, sAtD h1, by omega, ?_, spT (fS.data.getD k 0).toNat, (g.mono l1).at _, 119 - (k + 1), by omega, k + 1, by omega, ?_, rfl⟩
    · have := (fS.data.getD k 0).toNat_lt; show ((_ : Nat) : Int) < 256; omega
    · show _ = step1 (st1 k) (fS.data.getD k 0)
      have e := st1_i k hk
      unfold step1
      rw [e]
  · have h1 : k = 119 := by rw [dec_f, fS_size] at h1; omega
    subst h1
    rw [st1_end]
    refine ⟨fun h2 => by simp at h2, fun _ => ⟨by omega, by omega, by decide, ?_⟩⟩
    refine ⟨fun n x R' => x = 0, ⟨0, rfl⟩, ?_⟩
    rintro n x R2 l2 rfl
    refine ⟨fun _ => ⟨_, sAt_get (k := 0) (by rw [fS_size]; omega), by omega, by decide, spT 102, (g.mono (l1.trans l2)).at _, fun h3 => (by cases h3), fun _ => ?_⟩, fun h3 => (by simp [fS_size] at h3)⟩
    refine ⟨fun n x R' => ∃ k, k ≤ 119 ∧ x = st3 k ∧ n = 119 - k, ⟨119, 0, by omega, rfl, rfl⟩, ?_⟩
    rintro n x R3 l3 ⟨k, hk, rfl, rfl⟩
    have l03 := (l1.trans l2).trans l3
    have hi := st3_i k hk
    have hl := st3_len k
    have hc := chk3_at hk
    unfold chk3 at hc
    simp only [Bool.and_eq_true, decide_eq_true_eq, Bool.or_eq_true, beq_iff_eq] at hc
    obtain ⟨⟨c1, c2, c3, c4⟩, c5⟩ := hc
    rw [hi]
    refine ⟨fun h4 => ?_, fun h4 => ?_⟩
    · have h4 : k < fS.size := by simp at h4; omega
      have h4' : k < 119 := h4
      refine ⟨_, sAtD h4, by omega, ?_, spT (fS.data.getD k 0).toNat, (g.mono l03).at _, fun h5 => ?_, fun h5 => ?_⟩
      · have := (fS.data.getD k 0).toNat_lt; show ((_ : Nat) : Int) < 256; omega
      · refine ⟨119 - (k + 1), by omega, k + 1, by omega, ?_, rfl⟩
        show _ = step3 (st3 k)
        unfold step3
        rw [hi, show Int.toNat (k : Int) = k from rfl, if_pos (by simpa using h5)]
      · have hsp : ¬ spT (fS.data.getD k 0).toNat = 0 := by simpa using h5
        have hn : spT (fS.data.getD (k + 1) 0).toNat = 0 ∧ k + 1 < 119 := by
          rcases c5 with c5 | c5
          · exact absurd c5 hsp
          · exact c5
        obtain ⟨z, hz⟩ : ∃ z, (st3 k).1[Int.toNat (st3 k).2.1]? = some z := ⟨_, List.getElem?_eq_getElem (by rw [hl]; omega)⟩
        refine ⟨c1, c2, by rw [fS_size]; omega, c3, by rw [hl]; omega, z, hz, ?_⟩
        refine ⟨fun n x R' => x = ((k + 1 : Nat) : Int), ⟨0, by rw [wrap_up (by omega)]⟩, ?_⟩
        rintro n x R4 l4 rfl
        have nextS : st3 (k + 1) = ((st3 k).1.set (Int.toNat (st3 k).2.1) (fS.extract (Int.toNat (st3 k).2.2.1) (Int.toNat (k : Int))), IntKind.wrap .i64 ((st3 k).2.1 + 1), ((k + 1 : Nat) : Int), ((k + 1 : Nat) : Int)) := by
          show step3 (st3 k) = _
          unfold step3
          rw [hi, show Int.toNat (k : Int) = k from rfl, if_neg hsp, wrap_up (by omega)]
        refine ⟨fun _ => ⟨_, sAtD (k := k + 1) (by rw [fS_size]; exact hn.2), by omega, ?_, spT (fS.data.getD (k + 1) 0).toNat, (g.mono (l03.trans l4)).at _, fun h6 => ?_, fun h6 => ⟨119 - (k + 1), by omega, k + 1, by omega, nextS.symm, rfl⟩⟩, fun h6 => ?_⟩
        · have := (fS.data.getD (k + 1) 0).toNat_lt; show ((_ : Nat) : Int) < 256; omega
        · exfalso
          rw [hn.1] at h6
          simp at h6
        · exfalso
          rw [dec_f, fS_size] at h6
          have := hn.2
          omega
    · have h4 : k = 119 := by rw [dec_f, fS_size] at h4; omega
      subst h4
      obtain ⟨e1, e2⟩ := st3_end
      refine ⟨fun _ => ?_, fun h5 => by rw [dec_f, fS_size] at h5; omega⟩
      obtain ⟨z, hz⟩ : ∃ z, (st3 119).1[Int.toNat (st3 119).2.1]? = some z := ⟨_, List.getElem?_eq_getElem (by rw [hl]; omega)⟩
      refine ⟨c1, by rw [fS_size]; omega, by omega, c3, by rw [hl]; omega, z, hz, fun s R4 hf => h s R4 ((l03).trans hf.le) ?_⟩
      have := hf.sl
      rw [show Int.toNat (↑(ByteArray.size fS) : Int) = 119 from rfl, e2] at this
      exact this)
theorem fL_words : fL.all (fun x => inL btW x || inL plL x) = true ∧ (btW ++ plL).all (inL fL) = true := by constructor <;> kernel_rfl
theorem inL_fL (s : ByteArray) : inL fL s = (inL btW s || inL plL s) := by
  obtain ⟨h1, h2⟩ := fL_words
  rw [List.all_eq_true] at h1 h2
  rw [Bool.eq_iff_iff]
  constructor
  · intro h; exact h1 s (inL_iff.1 h)
  · intro h
    rw [Bool.or_eq_true] at h
    exact h2 s (by rw [List.mem_append]; exact h.imp inL_iff.1 inL_iff.1)
theorem c_impl_typeOfWord {s : ByteArray} {R : Hp} {K : Ending → Hp → Prop} (g : Glob R) (h : ∀ R', R.le R' → K (.returned (.int .i64 (tyOf s))) R') : CallsR P0 F_impl_typeOfWord #[.string s] R K := go_impl_typeOfWord (by
  unfold vc_impl_typeOfWord
  obtain ⟨sl, g1, g2⟩ := g.tw
  refine ⟨sl, g1, ?_⟩
  refine loop_up 11 0 (fun k R' => tyOf s = if k = 0 then tyOf s else tyFrom (11 - k) k s) (by omega) (by rw [if_pos rfl]) fun Inv k R' hl hk hq hn => ⟨fun h1 => ?_, fun h1 => ?_⟩
  · have h1 : k < twL.length := by rw [dec_t, g2.len] at h1; omega
    have h1' : k < 11 := h1
    refine ⟨_, g2.get hl h1, fun h2 => ⟨fun h3 => ?_, fun h3 => ?_⟩, fun h2 => ?_⟩
    · have h2 : 0 < k := by simp at h2; omega
      rw [sEq_true] at h3
      rw [if_neg (by omega)] at hq
      refine ki (h R' hl) ?_
      obtain ⟨m, hm⟩ : ∃ m, 11 - k = m + 1 := ⟨10 - k, by omega⟩
      rw [hq, hm]; simp only [tyFrom]
      rw [if_pos]
      rw [← h3, List.getD_eq_getElem?_getD, List.getElem?_eq_getElem h1]; rfl
    · have h2 : 0 < k := by simp at h2; omega
      rw [sEq_false] at h3
      rw [if_neg (by omega)] at hq
      obtain ⟨n', hn1, hn2⟩ := hn R' (by omega) (by
        rw [if_neg (by omega)]
        obtain ⟨m, hm⟩ : ∃ m, 11 - k = m + 1 := ⟨10 - k, by omega⟩
        rw [hq, hm]; simp only [tyFrom]
        rw [if_neg]
        · congr 1; omega
        · rw [List.getD_eq_getElem?_getD, List.getElem?_eq_getElem h1]; exact h3)
      exact ⟨n', hn1, by rw [wrap_up (by omega)]; exact hn2⟩
    · have h2 : k = 0 := by simp at h2; omega
      subst h2
      obtain ⟨n', hn1, hn2⟩ := hn R' (by omega) (by rw [if_neg (by omega)]; rfl)
      exact ⟨n', hn1, by rw [wrap_up (by omega)]; exact hn2⟩
  · have h1 : k = 11 := by rw [dec_f, g2.len, show (twL.length : Int) = 11 from rfl] at h1; omega
    subst h1
    rw [if_neg (by omega)] at hq
    exact ki (h R' hl) (by rw [hq]; rfl))
theorem c_impl_isTaken {s : ByteArray} {R : Hp} {K : Ending → Hp → Prop} (g : Glob R) (h : ∀ R', R.le R' → K (.returned (.bool (taken s))) R') : CallsR P0 F_impl_isTaken #[.string s] R K := go_impl_isTaken (by
  unfold vc_impl_isTaken
  refine c_Fields g fun sl R1 l1 hs => ⟨_, rfl, ?_⟩
  refine loop_up fL.length 0 (fun k _ => ∀ j (hj : j < fL.length), j < k → fL[j] ≠ s) (by omega) (fun j a b => by omega) fun Inv k R2 l2 hk hq hn => ⟨fun h1 => ?_, fun h1 => ?_⟩
  · have h1 : k < fL.length := by rw [dec_t, hs.len] at h1; omega
    refine ⟨_, hs.get l2 h1, fun h2 => ?_, fun h2 => ?_⟩
    · rw [sEq_true] at h2
      refine kb (h R2 (l1.trans l2)) ?_
      have : inL fL s = true := inL_iff.2 (h2 ▸ List.getElem_mem _)
      rw [inL_fL] at this
      unfold taken
      rw [Bool.or_assoc, this, Bool.or_true]
    · rw [sEq_false] at h2
      obtain ⟨n', hn1, hn2⟩ := hn R2 (by omega) (fun i a b => by
        rcases Nat.lt_or_ge i k with c | c
        · exact hq i a c
        · have e : i = k := by omega
          subst e; exact h2)
      exact ⟨n', hn1, by rw [wrap_up (by have : fL.length = 25 := rfl; omega)]; exact hn2⟩
  · have h1 : k = fL.length := by rw [dec_f, hs.len] at h1; omega
    refine c_impl_typeOfWord (g.mono (l1.trans l2)) fun R3 l3 => ⟨_, rfl, kb (h R3 ((l1.trans l2).trans l3)) ?_⟩
    have p : inL fL s = false := inL_not (mem_upto fun i hi => hq i hi (by omega))
    rw [inL_fL] at p
    unfold taken
    rw [Bool.or_assoc, p, Bool.or_false]
    have := tyFrom_nn 10 1 s
    refine dec_eq ?_
    show tyFrom 10 1 s ≠ 0 ↔ tyFrom 10 1 s > 0
    omega)
theorem c_impl_nameOk {s : ByteArray} {R : Hp} {K : Ending → Hp → Prop} (g : Glob R) (h : ∀ R', R.le R' → K (.returned (.bool (nameOk s))) R') : CallsR P0 F_impl_nameOk #[.string s] R K := go_impl_nameOk (by
  unfold vc_impl_nameOk
  refine ⟨fun h1 => kb (h R (Hp.le.refl R)) ?_, fun h1 => ⟨fun h2 => kb (h R (Hp.le.refl R)) ?_, fun h2 => ?_⟩⟩
  · simp at h1; unfold nameOk; simp; omega
  · simp at h1 h2; unfold nameOk; simp; omega
  · simp at h1 h2
    have hs : 0 < s.size := by omega
    have e0 : s.data[0]? = some s.data[0] := by simp [hs]
    have hr : decide (1 ≤ s.size ∧ s.size ≤ 30) = true := by simp; omega
    refine ⟨_, sAt_get (k := 0) hs, c_impl_lower ⟨_, rfl, fun h3 => kb (h R (Hp.le.refl R)) ?_, fun h3 => c_impl_isTaken g fun R1 l1 => ⟨_, rfl, fun h4 => kb (h R1 l1) ?_, fun h4 => ?_⟩⟩⟩
    · simp at h3; simp [nameOk, e0, h3]
    · simp [nameOk, h4]
    · refine loop_up s.size 0 (fun k _ => tailsOk s k = true) (by omega) (by simp [tailsOk]) fun Inv k R2 l2 hk hq hn => ⟨fun h5 => ?_, fun h5 => ?_⟩
      · have h5 : k < s.size := by simp at h5; omega
        refine ⟨_, sAt_get h5, c_impl_wordy ⟨_, rfl, fun h6 => kb (h R2 (l1.trans l2)) ?_, fun h6 => ?_⟩⟩
        · have : tailsOk s s.size = false := by
            cases e : tailsOk s s.size with
            | false => rfl
            | true =>
              unfold tailsOk at e
              rw [List.all_eq_true] at e
              have := e s.data[k] (by rw [List.take_of_length_le (by simp)]; simp)
              simp at h6
              rw [h6] at this; cases this
          simp [nameOk, this]
        · obtain ⟨n', hn1, hn2⟩ := hn R2 h5 (by rw [tailsOk_succ h5, hq]; simpa using h6)
          exact ⟨n', hn1, by rw [wrap_up (by omega)]; exact hn2⟩
      · have h5 : k = s.size := by simp at h5; omega
        refine kb (h R2 (l1.trans l2)) ?_
        simp at h3
        rw [h5] at hq
        simp [nameOk, e0, h3, h4, hq, hr])
end Go.KE

/- Values. -/
namespace Go.KE
set_option maxRecDepth 100000

def mIn (a b c : Int) : Bool := decide (b ≤ a ∧ a ≤ c)
theorem c_spec_l7In {a b c : Int} {R : Hp} {K : Ending → Hp → Prop} (h : K (.returned (.bool (mIn a b c))) R) : CallsR P0 F_spec_l7In #[.int .i64 a, .int .i64 b, .int .i64 c] R K := go_spec_l7In (by
  unfold vc_spec_l7In
  refine ⟨fun h1 => kb h ?_, fun h1 => kb h ?_⟩ <;> (simp at h1; simp [mIn]; omega))
def mHasA (op : Int) : Bool := decide (1 ≤ op ∧ op ≤ 12 ∧ op ≠ 4)
theorem c_spec_l7HasA {a : Int} {R : Hp} {K : Ending → Hp → Prop} (h : K (.returned (.bool (mHasA a))) R) : CallsR P0 F_spec_l7HasA #[.int .i64 a] R K := go_spec_l7HasA (by
  unfold vc_spec_l7HasA
  refine ⟨fun h1 => kb h ?_, fun h1 => ⟨fun h2 => kb h ?_, fun h2 => ⟨fun h3 => kb h ?_, fun h3 => c_spec_l7In ⟨_, rfl, kb h ?_⟩⟩⟩⟩ <;> simp only [beq_iff_eq, beq_eq_false_iff_ne] at *
  · simp only [mHasA, decide_eq_true_eq]; omega
  · simp only [mHasA, decide_eq_true_eq]; omega
  · simp only [mHasA, decide_eq_true_eq]; omega
  · exact dec_eq (by omega))
def mInt (t : Int) : Bool := decide (3 ≤ t ∧ t ≤ 10)
theorem c_spec_l1Integer {a : Int} {R : Hp} {K : Ending → Hp → Prop} (h : K (.returned (.bool (mInt a))) R) : CallsR P0 F_spec_l1Integer #[.int .i64 a] R K := go_spec_l1Integer (by
  unfold vc_spec_l1Integer
  refine ⟨fun h1 => kb h ?_, fun h1 => kb h ?_⟩ <;> (simp at h1; simp [mInt]; omega))
theorem c_impl_integer {a : Int} {R : Hp} {K : Ending → Hp → Prop} (h : K (.returned (.bool (mInt a))) R) : CallsR P0 F_impl_integer #[.int .i64 a] R K := go_impl_integer (by
  unfold vc_impl_integer
  refine ⟨fun h1 => kb h ?_, fun h1 => kb h ?_⟩ <;> (simp at h1; simp [mInt]; omega))
def mBits (t : Int) : Int := if t = 3 ∨ t = 7 then 8 else if t = 4 ∨ t = 8 then 16 else if t = 5 ∨ t = 9 then 32 else 64
theorem c_spec_l1Bits {a : Int} {R : Hp} {K : Ending → Hp → Prop} (h : K (.returned (.int .i64 (mBits a))) R) : CallsR P0 F_spec_l1Bits #[.int .i64 a] R K := go_spec_l1Bits (by
  unfold vc_spec_l1Bits
  refine ⟨fun h1 => ki h ?_, fun h1 => ⟨fun h2 => ki h ?_, fun h2 => ⟨fun h3 => ki h ?_, fun h3 => ⟨fun h4 => ki h ?_, fun h4 => ⟨fun h5 => ki h ?_, fun h5 => ⟨fun h6 => ki h ?_, fun h6 => ki h ?_⟩⟩⟩⟩⟩⟩ <;> simp at * <;> simp_all [mBits])
theorem c_impl_bits {a : Int} {R : Hp} {K : Ending → Hp → Prop} (h : K (.returned (.int .u64 (mBits a))) R) : CallsR P0 F_impl_bits #[.int .i64 a] R K := go_impl_bits (by
  unfold vc_impl_bits
  refine ⟨fun h1 => ki h ?_, fun h1 => ⟨fun h2 => ki h ?_, fun h2 => ⟨fun h3 => ki h ?_, fun h3 => ⟨fun h4 => ki h ?_, fun h4 => ⟨fun h5 => ki h ?_, fun h5 => ⟨fun h6 => ki h ?_, fun h6 => ki h ?_⟩⟩⟩⟩⟩⟩ <;> simp at * <;> simp_all [mBits])
def mSigned (t : Int) : Bool := decide (7 ≤ t ∧ t ≤ 10)
theorem c_spec_l1Signed {a : Int} {R : Hp} {K : Ending → Hp → Prop} (h : K (.returned (.bool (mSigned a))) R) : CallsR P0 F_spec_l1Signed #[.int .i64 a] R K := go_spec_l1Signed (by
  unfold vc_spec_l1Signed
  refine ⟨fun h1 => kb h ?_, fun h1 => kb h ?_⟩ <;> (simp at h1; simp [mSigned]; omega))
theorem c_impl_signed {a : Int} {R : Hp} {K : Ending → Hp → Prop} (h : K (.returned (.bool (decide (7 ≤ a)))) R) : CallsR P0 F_impl_signed #[.int .i64 a] R K := go_impl_signed (by
  unfold vc_impl_signed
  exact kb h (by simp))
/-- A number taken into a type. -/
def intoM (t m : Int) : Int := if mBits t = 64 then IntKind.wrap .i64 m else if mSigned t = true ∧ 2 ^ (mBits t - 1).toNat ≤ m % 2 ^ (mBits t).toNat then m % 2 ^ (mBits t).toNat - 2 ^ (mBits t).toNat else m % 2 ^ (mBits t).toNat
theorem wrap_u {n : Int} : IntKind.wrap .u64 n = n % 18446744073709551616 := by unfold IntKind.wrap; simp [IntKind.bits, IntKind.signed]
theorem mBits_cases (t : Int) : mBits t = 8 ∨ mBits t = 16 ∨ mBits t = 32 ∨ mBits t = 64 := by
  unfold mBits
  split
  · exact .inl rfl
  · split
    · exact .inr (.inl rfl)
    · split
      · exact .inr (.inr (.inl rfl))
      · exact .inr (.inr (.inr rfl))
theorem into_spec {t m b : Int} {n : Nat} (hb : mBits t = b) (hn : b.toNat = n) (h0 : 0 ≤ m) (hbn : b = 8 ∨ b = 16 ∨ b = 32) {R : Hp} {K : Ending → Hp → Prop} (h : K (.returned (.int .i64 (intoM t m))) R)
    (u : Int) (hu : u = 2 ^ n) (v : Int) (hv : v = 2 ^ (n - 1)) :
    CallsR P0 F_spec_l1Signed #[.int .i64 t] R fun e_1 R'_1 => (∃ x_1 : Bool, ((e_1 = Ending.returned (Value.bool x_1)) ∧ (((x_1 = true) → (((2 : Int) ≠ 0) ∧ (((decide (Int.tmod m u ≥ v) = true) → (K (Ending.returned (Value.int IntKind.i64 (IntKind.wrap IntKind.i64 (IntKind.wrap IntKind.u64 (Int.tmod m u - u))))) R'_1)) ∧ ((decide (Int.tmod m u ≥ v) = false) → (K (Ending.returned (Value.int IntKind.i64 (IntKind.wrap IntKind.i64 (Int.tmod m u)))) R'_1))))) ∧ ((x_1 = false) → (K (Ending.returned (Value.int IntKind.i64 (IntKind.wrap IntKind.i64 (Int.tmod m u)))) R'_1))))) := by
  have hmod : Int.tmod m u = m % u := Int.tmod_eq_emod_of_nonneg h0
  have e : intoM t m = if mSigned t = true ∧ v ≤ m % u then m % u - u else m % u := by
    unfold intoM
    rw [if_neg (by rw [hb]; omega), hb, hn, hu, hv]
    have : (b - 1).toNat = n - 1 := by omega
    rw [this]
  have hur : 0 ≤ m % u ∧ m % u < u ∧ (u = 256 ∧ v = 128 ∨ u = 65536 ∧ v = 32768 ∨ u = 4294967296 ∧ v = 2147483648) := by
    have : u = 256 ∧ v = 128 ∨ u = 65536 ∧ v = 32768 ∨ u = 4294967296 ∧ v = 2147483648 := by
      rcases hbn with rfl | rfl | rfl
      · left; subst hn; subst hu; subst hv; exact ⟨rfl, rfl⟩
      · right; left; subst hn; subst hu; subst hv; exact ⟨rfl, rfl⟩
      · right; right; subst hn; subst hu; subst hv; exact ⟨rfl, rfl⟩
    refine ⟨?_, ?_, this⟩
    · rcases this with ⟨rfl, _⟩ | ⟨rfl, _⟩ | ⟨rfl, _⟩ <;> omega
    · rcases this with ⟨rfl, _⟩ | ⟨rfl, _⟩ | ⟨rfl, _⟩ <;> omega
  obtain ⟨r1, r2, r3⟩ := hur
  rw [hmod]
  generalize m % u = q at *
  refine c_spec_l1Signed ⟨_, rfl, fun h1 => ⟨by omega, fun h2 => ki h ?_, fun h2 => ki h ?_⟩, fun h1 => ki h ?_⟩
  · rw [dec_t] at h2
    rw [e, if_pos ⟨h1, h2⟩, wrap_u, IntKind.wrap_i64]; omega
  · rw [dec_f] at h2
    rw [e, if_neg (fun c => h2 c.2), wrap_in (by omega)]
  · rw [e, if_neg (fun c => by rw [h1] at c; cases c.1), wrap_in (by omega)]
theorem c_spec_l4Into {t m : Int} {R : Hp} {K : Ending → Hp → Prop} (h0 : 0 ≤ m) (h : K (.returned (.int .i64 (intoM t m))) R) : CallsR P0 F_spec_l4Into #[.int .i64 t, .int .u64 m] R K := go_spec_l4Into (by
  unfold vc_spec_l4Into
  refine c_spec_l1Bits ⟨_, rfl, fun h1 => ?_, fun h1 => ?_⟩
  · rw [dec_t] at h1
    rcases mBits_cases t with hb | hb | hb | hb <;> rw [hb] at h1 ⊢
    · exact ⟨by decide, by decide, into_spec hb (n := 8) rfl h0 (by omega) h _ (by decide) _ (by decide)⟩
    · exact ⟨by decide, by decide, into_spec hb (n := 16) rfl h0 (by omega) h _ (by decide) _ (by decide)⟩
    · exact ⟨by decide, by decide, into_spec hb (n := 32) rfl h0 (by omega) h _ (by decide) _ (by decide)⟩
    · omega
  · rw [dec_f] at h1
    have hb : mBits t = 64 := by rcases mBits_cases t with hb | hb | hb | hb <;> omega
    exact ki h (by unfold intoM; rw [if_pos hb]))
theorem bv_and (a : Int) (n : Nat) (h0 : 0 ≤ a) (h1 : a < 18446744073709551616) (hn : n ≤ 63) : ((BitVec.toNat (BitVec.ofInt 64 a &&& BitVec.ofInt 64 ((2 ^ n - 1 : Nat) : Int)) : Nat) : Int) = a % 2 ^ n := by
  obtain ⟨m, rfl⟩ : ∃ m : Nat, a = (m : Int) := ⟨a.toNat, by omega⟩
  have hp : 2 ^ n ≤ 2 ^ 63 := Nat.pow_le_pow_right (by omega) hn
  have hp0 : 0 < 2 ^ n := Nat.pow_pos (by omega)
  rw [BitVec.ofInt_natCast, BitVec.ofInt_natCast, BitVec.toNat_and, BitVec.toNat_ofNat, BitVec.toNat_ofNat, Nat.mod_eq_of_lt (by omega), Nat.mod_eq_of_lt (by omega), Nat.and_two_pow_sub_one_eq_mod]
  simp
theorem bv_or (a : Int) (n : Nat) (h0 : 0 ≤ a) (h1 : a < 2 ^ n) (hn : n ≤ 63) : ((BitVec.toNat (BitVec.ofInt 64 a ||| BitVec.ofInt 64 ((18446744073709551616 - 2 ^ n : Nat) : Int)) : Nat) : Int) = a + (18446744073709551616 - 2 ^ n : Nat) := by
  obtain ⟨m, rfl⟩ : ∃ m : Nat, a = (m : Int) := ⟨a.toNat, by omega⟩
  have hp : 2 ^ n ≤ 2 ^ 63 := Nat.pow_le_pow_right (by omega) hn
  have hp0 : 0 < 2 ^ n := Nat.pow_pos (by omega)
  have hm : m < 2 ^ n := by
    have : ((m : Nat) : Int) < ((2 ^ n : Nat) : Int) := by simpa using h1
    omega
  have e : 18446744073709551616 - 2 ^ n = 2 ^ n * (2 ^ (64 - n) - 1) := by
    rw [Nat.mul_sub, ← Nat.pow_add, show n + (64 - n) = 64 by omega]; omega
  rw [BitVec.ofInt_natCast, BitVec.ofInt_natCast, BitVec.toNat_or, BitVec.toNat_ofNat, BitVec.toNat_ofNat, Nat.mod_eq_of_lt (by omega), Nat.mod_eq_of_lt (by omega), e, Nat.or_comm, ← Nat.two_pow_add_eq_or_of_lt hm]
  omega
end Go.KE

/- Values: what is valid. -/
namespace Go.KE
set_option maxRecDepth 100000

theorem into_impl {t m b : Int} {n : Nat} (hb : mBits t = b) (hn : b.toNat = n) (h0 : 0 ≤ m) (h64 : m < 18446744073709551616) (ht : t ≤ 10) (hbn : b = 8 ∨ b = 16 ∨ b = 32) {R : Hp} {K : Ending → Hp → Prop} (h : K (.returned (.int .i64 (intoM t m))) R)
    (M : Int) (hM : M = ((2 ^ n - 1 : Nat) : Int)) (D : Int) (hD : D = 2 ^ (n - 1)) (H : Int) (hH : H = ((18446744073709551616 - 2 ^ n : Nat) : Int)) (w : Int) (hw : 0 ≤ w) :
    CallsR P0 F_impl_signed #[.int .i64 t] R fun e_1 R'_1 => (∃ x_1 : Bool, ((e_1 = Ending.returned (Value.bool x_1)) ∧ (((x_1 = true) → ((0 ≤ w) ∧
      ((((Int.fdiv (IntKind.wrap .u64 (↑(BitVec.toNat (BitVec.ofInt (IntKind.bits .u64) m &&& BitVec.ofInt (IntKind.bits .u64) M)) : Int)) D == 1) = true) → ((0 ≤ b) ∧ (K (Ending.returned (Value.int IntKind.i64 (IntKind.wrap .i64 (IntKind.wrap .u64 (↑(BitVec.toNat (BitVec.ofInt (IntKind.bits .u64) (IntKind.wrap .u64 (↑(BitVec.toNat (BitVec.ofInt (IntKind.bits .u64) m &&& BitVec.ofInt (IntKind.bits .u64) M)) : Int)) ||| BitVec.ofInt (IntKind.bits .u64) H)) : Int))))) R'_1))) ∧
       (((Int.fdiv (IntKind.wrap .u64 (↑(BitVec.toNat (BitVec.ofInt (IntKind.bits .u64) m &&& BitVec.ofInt (IntKind.bits .u64) M)) : Int)) D == 1) = false) → (K (Ending.returned (Value.int IntKind.i64 (IntKind.wrap .i64 (IntKind.wrap .u64 (↑(BitVec.toNat (BitVec.ofInt (IntKind.bits .u64) m &&& BitVec.ofInt (IntKind.bits .u64) M)) : Int))))) R'_1))))) ∧
      ((x_1 = false) → (K (Ending.returned (Value.int IntKind.i64 (IntKind.wrap .i64 (IntKind.wrap .u64 (↑(BitVec.toNat (BitVec.ofInt (IntKind.bits .u64) m &&& BitVec.ofInt (IntKind.bits .u64) M)) : Int))))) R'_1))))) := by
  have hA : ((BitVec.toNat (BitVec.ofInt (IntKind.bits .u64) m &&& BitVec.ofInt (IntKind.bits .u64) M) : Nat) : Int) = m % 2 ^ n := by rw [hM]; exact bv_and m n h0 h64 (by omega)
  rw [hA]
  have e : intoM t m = if mSigned t = true ∧ D ≤ m % 2 ^ n then m % 2 ^ n - 2 ^ n else m % 2 ^ n := by
    unfold intoM
    rw [if_neg (by rw [hb]; omega), hb, hn, hD]
    have : (b - 1).toNat = n - 1 := by omega
    rw [this]
  have hpow : ((2 : Int) ^ n = 256 ∧ D = 128 ∨ (2 : Int) ^ n = 65536 ∧ D = 32768 ∨ (2 : Int) ^ n = 4294967296 ∧ D = 2147483648) := by
    rcases hbn with rfl | rfl | rfl
    · left; subst hn; subst hD; exact ⟨rfl, rfl⟩
    · right; left; subst hn; subst hD; exact ⟨rfl, rfl⟩
    · right; right; subst hn; subst hD; exact ⟨rfl, rfl⟩
  have hH' : H = 18446744073709551616 - 2 ^ n := by
    rcases hbn with rfl | rfl | rfl <;> (subst hn; subst hH; rfl)
  have r1 : 0 ≤ m % 2 ^ n ∧ m % 2 ^ n < 2 ^ n := by
    rcases hpow with ⟨p, _⟩ | ⟨p, _⟩ | ⟨p, _⟩ <;> rw [p] <;> omega
  have hO : 0 ≤ m % 2 ^ n → ((BitVec.toNat (BitVec.ofInt (IntKind.bits .u64) (m % 2 ^ n) ||| BitVec.ofInt (IntKind.bits .u64) H) : Nat) : Int) = m % 2 ^ n + (18446744073709551616 - 2 ^ n) := fun h => by
    rw [hH]
    have := bv_or (m % 2 ^ n) n h r1.2 (by omega)
    rw [← hH']
    rw [hH]
    exact this
  have hw1 : IntKind.wrap .u64 (m % 2 ^ n) = m % 2 ^ n := by
    rw [wrap_u]
    rcases hpow with ⟨p, _⟩ | ⟨p, _⟩ | ⟨p, _⟩ <;> rw [p] at r1 ⊢ <;> omega
  rw [hw1, hO r1.1]
  have hfd : (Int.fdiv (m % 2 ^ n) D == 1) = decide (D ≤ m % 2 ^ n) := by
    rw [Int.fdiv_eq_ediv_of_nonneg _ (by rcases hpow with ⟨_, p⟩ | ⟨_, p⟩ | ⟨_, p⟩ <;> omega), Bool.eq_iff_iff]
    simp only [beq_iff_eq, decide_eq_true_eq]
    rcases hpow with ⟨p, q⟩ | ⟨p, q⟩ | ⟨p, q⟩ <;> rw [p] at r1 ⊢ <;> subst q <;> omega
  rw [hfd]
  generalize m % 2 ^ n = q at *
  generalize (2 : Int) ^ n = u at *
  have hs : mSigned t = decide (7 ≤ t) := by unfold mSigned; exact dec_eq (by omega)
  rw [hs] at e
  refine c_impl_signed ⟨_, rfl, fun h1 => ⟨hw, fun h2 => ⟨by omega, ki h ?_⟩, fun h2 => ki h ?_⟩, fun h1 => ki h ?_⟩
  · rw [dec_t] at h2
    rw [e, if_pos ⟨h1, h2⟩, wrap_u, IntKind.wrap_i64]
    rcases hpow with ⟨p, _⟩ | ⟨p, _⟩ | ⟨p, _⟩ <;> omega
  · rw [dec_f] at h2
    rw [e, if_neg (fun c => h2 c.2), wrap_in (by rcases hpow with ⟨p, _⟩ | ⟨p, _⟩ | ⟨p, _⟩ <;> omega)]
  · rw [e, if_neg (fun c => by rw [h1] at c; cases c.1), wrap_in (by rcases hpow with ⟨p, _⟩ | ⟨p, _⟩ | ⟨p, _⟩ <;> omega)]
theorem c_impl_into {t m : Int} {R : Hp} {K : Ending → Hp → Prop} (h0 : 0 ≤ m) (h64 : m < 18446744073709551616) (ht : t ≤ 10) (h : K (.returned (.int .i64 (intoM t m))) R) : CallsR P0 F_impl_into #[.int .u64 m, .int .i64 t] R K := go_impl_into (by
  unfold vc_impl_into
  refine c_impl_bits ⟨_, rfl, fun h1 => ?_, fun h1 => ?_⟩
  · have hb : mBits t = 64 := by simpa using h1
    exact ki h (by unfold intoM; rw [if_pos hb])
  · rcases mBits_cases t with hb | hb | hb | hb <;> rw [hb] at h1 ⊢
    · exact ⟨by omega, into_impl hb (n := 8) rfl h0 h64 ht (by omega) h _ (by decide) _ (by decide) _ (by decide) _ (by decide)⟩
    · exact ⟨by omega, into_impl hb (n := 16) rfl h0 h64 ht (by omega) h _ (by decide) _ (by decide) _ (by decide) _ (by decide)⟩
    · exact ⟨by omega, into_impl hb (n := 32) rfl h0 h64 ht (by omega) h _ (by decide) _ (by decide) _ (by decide) _ (by decide)⟩
    · cases h1)
/-- What is valid. -/
def validV (t n : Int) (s : ByteArray) : Bool :=
  if t = 1 then decide ((n = 0 ∨ n = 1) ∧ s = ⟨#[]⟩) else if t = 2 then decide (n = 0 ∧ s.size ≤ 3000) else mInt t && decide (s = ⟨#[]⟩) && decide (n = intoM t (IntKind.wrap .u64 n))
theorem c_spec_ValidValue {t n : Int} {s : ByteArray} {R : Hp} {K : Ending → Hp → Prop} (h : K (.returned (.bool (validV t n s))) R) : CallsR P0 F_spec_ValidValue #[.agg #[.int .i64 t, .int .i64 n, .string s]] R K := go_spec_ValidValue (by
  unfold vc_spec_ValidValue
  refine ⟨fun h1 => ⟨fun h2 => kb h ?_, fun h2 => ⟨fun h3 => kb h ?_, fun h3 => kb h ?_⟩⟩, fun h1 => ⟨fun h2 => ⟨fun h3 => kb h ?_, fun h3 => kb h ?_⟩, fun h2 => c_spec_l1Integer ⟨_, rfl, fun h3 => ⟨fun h4 => c_spec_l4Into ?_ ⟨_, rfl, kb h ?_⟩, fun h4 => kb h ?_⟩, fun h3 => kb h ?_⟩⟩⟩ <;> simp only [beq_iff_eq, beq_eq_false_iff_ne] at *
  · simp [validV, h1, h2, sEq_eq]
  · simp [validV, h1, h3, sEq_eq]
  · simp [validV, h1, h2, h3]
  · simp [validV, h2, h3]; omega
  · simp [validV, h2, h3]
  · rw [wrap_u]; omega
  · rw [sEq_true] at h4
    simp [validV, h1, h2, h3, h4]
    rfl
  · rw [sEq_false] at h4
    simp [validV, h1, h2, h4]
  · simp [validV, h1, h2, h3])
theorem beq_comm' (a b : Int) : decide (a = b) = (b == a) := by
  rw [Bool.eq_iff_iff, decide_eq_true_eq, beq_iff_eq]
  exact eq_comm
theorem c_impl_ValidValue {t n : Int} {s : ByteArray} {R : Hp} {K : Ending → Hp → Prop} (h : K (.returned (.bool (validV t n s))) R) : CallsR P0 F_impl_ValidValue #[.agg #[.int .i64 t, .int .i64 n, .string s]] R K := go_impl_ValidValue (by
  unfold vc_impl_ValidValue
  refine ⟨fun h1 => ⟨fun h2 => kb h ?_, fun h2 => ⟨fun h3 => kb h ?_, fun h3 => kb h ?_⟩⟩, fun h1 => ⟨fun h2 => ⟨fun h3 => kb h ?_, fun h3 => kb h ?_⟩, fun h2 => c_impl_integer ⟨_, rfl, fun h3 => ⟨fun h4 => c_impl_into ?_ ?_ ?_ ⟨_, rfl, kb h ?_⟩, fun h4 => kb h ?_⟩, fun h3 => kb h ?_⟩⟩⟩ <;> simp only [beq_iff_eq, beq_eq_false_iff_ne] at *
  · simp [validV, h1, h2, sEq_eq]
  · simp [validV, h1, h3, sEq_eq]
  · simp [validV, h1, h2, h3]
  · simp [validV, h2, h3]; omega
  · simp [validV, h2, h3]
  · rw [wrap_u]; omega
  · rw [wrap_u]; omega
  · simp [mInt] at h3; omega
  · rw [sEq_true] at h4
    simp [validV, h1, h2, h3, h4]
    exact beq_comm' _ _
  · rw [sEq_false] at h4
    simp [validV, h1, h2, h4]
  · simp [validV, h1, h2, h3])
end Go.KE

/- Code: what is right of its parts. -/
namespace Go.KE
set_option maxRecDepth 100000

abbrev kIns : List Kd := [.int .i64, .int .i64, .int .i64, .str]
abbrev kFn : List Kd := [.str, .sl, .int .i64, .int .i64, .sl]
abbrev kI : List Kd := [.int .i64]
abbrev TIns := Int × Int × Int × ByteArray
abbrev TFn := ByteArray × Sl × Int × Int × Sl
structure MFn where
  name : ByteArray
  params : List Int
  result : Int
  slots : Int
  ins : List TIns
structure RFn (R : Hp) (t : TFn) (f : MFn) : Prop where
  name : t.1 = f.name
  ps : RSlice R t.2.1 kI f.params
  res : t.2.2.1 = f.result
  sl : t.2.2.2.1 = f.slots
  ins : RSlice R t.2.2.2.2 kIns f.ins
theorem RFn.mono {R R' : Hp} {t : TFn} {f : MFn} (h : RFn R t f) (l : R.le R') : RFn R' t f := ⟨h.name, h.ps.mono l, h.res, h.sl, h.ins.mono l⟩
structure RCode (R : Hp) (s : Sl) (c : List MFn) : Prop where
  len : s.len = c.length
  at_ : ∀ (k : Nat) f, c[k]? = some f → ∃ t : TFn, RElem R s kFn (k : Int) t ∧ RFn R t f
theorem RCode.mono {R R' : Hp} {s : Sl} {c : List MFn} (h : RCode R s c) (l : R.le R') : RCode R' s c := ⟨h.len, fun k f e => by
  obtain ⟨t, h1, h2⟩ := h.at_ k f e
  exact ⟨t, h1.mono l, h2.mono l⟩⟩
theorem RCode.get {R R' : Hp} {s : Sl} {c : List MFn} (h : RCode R s c) (l : R.le R') {k : Nat} (hk : k < c.length) : ∃ t : TFn, RElem R' s kFn (k : Int) t ∧ RFn R' t c[k] := by
  obtain ⟨t, h1, h2⟩ := h.at_ k c[k] (List.getElem?_eq_getElem hk)
  exact ⟨t, h1.mono l, h2.mono l⟩
theorem dbeq (a b : Int) : decide (a = b) = (a == b) := by rw [Bool.eq_iff_iff]; simp
/-- Is an instruction right? -/
def mInsOk (nf res slots nins : Int) (i : TIns) : Bool :=
  if i.1 = 1 then validV i.2.1 i.2.2.1 i.2.2.2 else if i.2.2.1 ≠ 0 then false else if i.2.2.2 ≠ ⟨#[]⟩ then false else
  if i.1 = 2 ∨ i.1 = 3 then mIn i.2.1 0 (IntKind.wrap .i64 (slots - 1)) else if i.1 = 5 then mIn i.2.1 1 3 else if i.1 = 6 then mIn i.2.1 3 18 else if i.1 = 7 then mIn i.2.1 3 10 else
  if i.1 = 8 then mIn i.2.1 1 12 else if i.1 = 9 then mIn i.2.1 0 (IntKind.wrap .i64 (nf - 1)) else if i.1 = 10 ∨ i.1 = 11 then mIn i.2.1 0 nins else
  if i.1 = 12 then decide (i.2.1 = 1 ∧ res ≠ 0 ∨ i.2.1 = 0 ∧ res = 0) else decide ((i.1 = 4 ∨ 13 ≤ i.1 ∧ i.1 ≤ 16) ∧ i.2.1 = 0)
theorem c_impl_insOk_1 {lo hi a b c : Int} {s : ByteArray} {R : Hp} {K : List (Option Value) → LTup (XS.outs sig_impl_insOk_1) → Hp → Prop} (h : K [some (.bool (mIn b lo hi))] (a, b, c, s) R) :
    CallsX P0 F_impl_insOk_1 sig_impl_insOk_1 [.l (.int .i64 lo), .l (.int .i64 hi), .l (.adr 1002 0)] (a, b, c, s) R K := go_impl_insOk_1 (by
  unfold vc_impl_insOk_1
  refine ⟨fun h1 => ?_, fun h1 => ?_⟩
  · have e : mIn b lo hi = decide (b ≤ hi) := by simp at h1; simp [mIn, h1]
    rw [e] at h; exact h
  · have e : mIn b lo hi = false := by simp at h1; simp [mIn]; omega
    rw [e] at h; exact h)
theorem c_impl_insOk {cs ps is : Sl} {nm : ByteArray} {res slots : Int} {i : TIns} {R : Hp} {K : Ending → Hp → Prop} (h : ∀ R', R.le R' → K (.returned (.bool (mInsOk cs.len res slots is.len i))) R') :
    CallsR P0 F_impl_insOk #[.agg #[cs.val], .agg #[.string nm, ps.val, .int .i64 res, .int .i64 slots, is.val], .agg #[.int .i64 i.1, .int .i64 i.2.1, .int .i64 i.2.2.1, .string i.2.2.2]] R K := go_impl_insOk (by
  obtain ⟨op, A, N, T⟩ := i
  have h := h R (Hp.le.refl R)
  unfold vc_impl_insOk
  refine ⟨fun h1 => c_impl_ValidValue ⟨_, rfl, kb h ?_⟩, fun h1 => ⟨fun h2 => kb h ?_, fun h2 => ⟨fun h3 => kb h ?_, fun h3 => ?_⟩⟩⟩
  · simp at h1; simp [mInsOk, h1]
  · simp at h1 h2; simp [mInsOk, h1, h2]
  · simp [sEq_eq] at h1 h2 h3; simp [mInsOk, h1, h2, h3]
  · simp only [sEq_eq, beq_eq_false_iff_ne, bne_eq_false_iff_eq, Bool.not_eq_false', decide_eq_true_eq] at h1 h2 h3
    subst h2; subst h3
    refine ⟨fun h4 => c_impl_insOk_1 ⟨_, rfl, kb h ?_⟩, fun h4 => ⟨fun h5 => c_impl_insOk_1 ⟨_, rfl, kb h ?_⟩, fun h5 => ⟨fun h6 => c_impl_insOk_1 ⟨_, rfl, kb h ?_⟩, fun h6 => ⟨fun h7 => c_impl_insOk_1 ⟨_, rfl, kb h ?_⟩, fun h7 => ⟨fun h8 => c_impl_insOk_1 ⟨_, rfl, kb h ?_⟩, fun h8 => ⟨fun h9 => c_impl_insOk_1 ⟨_, rfl, kb h ?_⟩, fun h9 =>
      ⟨fun h10 => c_impl_insOk_1 ⟨_, rfl, kb h ?_⟩, fun h10 => ⟨fun h11 => c_impl_insOk_1 ⟨_, rfl, kb h ?_⟩, fun h11 => ⟨fun h12 => c_impl_insOk_1 ⟨_, rfl, kb h ?_⟩, fun h12 => ⟨fun h13 => ⟨fun h14 => ⟨fun h15 => kb h ?_, fun h15 => ⟨fun h16 => kb h ?_, fun h16 => kb h ?_⟩⟩, fun h14 => ⟨fun h15 => kb h ?_, fun h15 => kb h ?_⟩⟩,
        fun h13 => ⟨fun h14 => kb h ?_, fun h14 => ⟨fun h15 => kb h ?_, fun h15 => ⟨fun h16 => kb h ?_, fun h16 => ⟨fun h17 => kb h ?_, fun h17 => ⟨fun h18 => kb h ?_, fun h18 => kb h ?_⟩⟩⟩⟩⟩⟩⟩⟩⟩⟩⟩⟩⟩⟩⟩ <;> simp only [beq_iff_eq, beq_eq_false_iff_ne, bne_iff_ne, ne_eq, bne_eq_false_iff_eq] at *
    all_goals first | (subst_vars; rfl) | skip
    all_goals simp_all [mInsOk]
    all_goals first | omega | exact dbeq _ _)
theorem insOk_tail {cs : Sl} {res slots : Int} {is : Sl} {op A N : Int} {T : ByteArray} (h1 : mIn op 1 16 = true) (h2 : mHasA op = true ∨ A = 0) {R : Hp} {K : Ending → Hp → Prop} (h : K (.returned (.bool (mInsOk cs.len res slots is.len (op, A, N, T)))) R) :
    ((((op == 1) = true) → (CallsR P0 F_spec_ValidValue { toList := [Value.agg ⟨[Value.int .i64 A, Value.int .i64 N, Value.string T]⟩] } R fun e_2 R'_2 => (∃ x_2 : Bool, ((e_2 = Ending.returned (Value.bool x_2)) ∧ (K (Ending.returned (Value.bool x_2)) R'_2))))) ∧ (((op == 1) = false) → ((((N != 0) = true) → (K (Ending.returned (Value.bool false)) R)) ∧ (((N != 0) = false) → ((((!sEq T { data := #[] }) = true) → (K (Ending.returned (Value.bool false)) R)) ∧ (((!sEq T { data := #[] }) = false) →
      ((((op == 2) = true) → (CallsR P0 F_spec_l7In ⟨[Value.int .i64 A, Value.int .i64 0, Value.int .i64 (IntKind.wrap .i64 (slots - 1))]⟩ R fun e_2 R'_2 => (∃ x_2 : Bool, ((e_2 = Ending.returned (Value.bool x_2)) ∧ (K (Ending.returned (Value.bool x_2)) R'_2))))) ∧ (((op == 2) = false) → ((((op == 3) = true) → (CallsR P0 F_spec_l7In ⟨[Value.int .i64 A, Value.int .i64 0, Value.int .i64 (IntKind.wrap .i64 (slots - 1))]⟩ R fun e_2 R'_2 => (∃ x_2 : Bool, ((e_2 = Ending.returned (Value.bool x_2)) ∧ (K (Ending.returned (Value.bool x_2)) R'_2))))) ∧ (((op == 3) = false) →
      ((((op == 5) = true) → (CallsR P0 F_spec_l7In ⟨[Value.int .i64 A, Value.int .i64 1, Value.int .i64 3]⟩ R fun e_2 R'_2 => (∃ x_2 : Bool, ((e_2 = Ending.returned (Value.bool x_2)) ∧ (K (Ending.returned (Value.bool x_2)) R'_2))))) ∧ (((op == 5) = false) → ((((op == 6) = true) → (CallsR P0 F_spec_l7In ⟨[Value.int .i64 A, Value.int .i64 3, Value.int .i64 18]⟩ R fun e_2 R'_2 => (∃ x_2 : Bool, ((e_2 = Ending.returned (Value.bool x_2)) ∧ (K (Ending.returned (Value.bool x_2)) R'_2))))) ∧ (((op == 6) = false) →
      ((((op == 7) = true) → (CallsR P0 F_spec_l1Integer ⟨[Value.int .i64 A]⟩ R fun e_2 R'_2 => (∃ x_2 : Bool, ((e_2 = Ending.returned (Value.bool x_2)) ∧ (K (Ending.returned (Value.bool x_2)) R'_2))))) ∧ (((op == 7) = false) → ((((op == 8) = true) → (CallsR P0 F_spec_l7In ⟨[Value.int .i64 A, Value.int .i64 1, Value.int .i64 12]⟩ R fun e_2 R'_2 => (∃ x_2 : Bool, ((e_2 = Ending.returned (Value.bool x_2)) ∧ (K (Ending.returned (Value.bool x_2)) R'_2))))) ∧ (((op == 8) = false) →
      ((((op == 9) = true) → (CallsR P0 F_spec_l7In ⟨[Value.int .i64 A, Value.int .i64 0, Value.int .i64 (IntKind.wrap .i64 ((↑cs.len : Int) - 1))]⟩ R fun e_2 R'_2 => (∃ x_2 : Bool, ((e_2 = Ending.returned (Value.bool x_2)) ∧ (K (Ending.returned (Value.bool x_2)) R'_2))))) ∧ (((op == 9) = false) → ((((op == 10) = true) → (CallsR P0 F_spec_l7In ⟨[Value.int .i64 A, Value.int .i64 0, Value.int .i64 (↑is.len : Int)]⟩ R fun e_2 R'_2 => (∃ x_2 : Bool, ((e_2 = Ending.returned (Value.bool x_2)) ∧ (K (Ending.returned (Value.bool x_2)) R'_2))))) ∧ (((op == 10) = false) →
      ((((op == 11) = true) → (CallsR P0 F_spec_l7In ⟨[Value.int .i64 A, Value.int .i64 0, Value.int .i64 (↑is.len : Int)]⟩ R fun e_2 R'_2 => (∃ x_2 : Bool, ((e_2 = Ending.returned (Value.bool x_2)) ∧ (K (Ending.returned (Value.bool x_2)) R'_2))))) ∧ (((op == 11) = false) → ((((op == 12) = true) → ((((A == 1) = true) → ((((res != 0) = true) → (K (Ending.returned (Value.bool true)) R)) ∧ (((res != 0) = false) → ((((A == 0) = true) → (K (Ending.returned (Value.bool (res == 0))) R)) ∧ (((A == 0) = false) → (K (Ending.returned (Value.bool false)) R)))))) ∧ (((A == 1) = false) → ((((A == 0) = true) → (K (Ending.returned (Value.bool (res == 0))) R)) ∧ (((A == 0) = false) → (K (Ending.returned (Value.bool false)) R)))))) ∧ (((op == 12) = false) → (K (Ending.returned (Value.bool true)) R))))))))))))))))))))))))))) := by
  have hop : 1 ≤ op ∧ op ≤ 16 := by simpa [mIn] using h1
  have hA : (op = 4 ∨ 13 ≤ op) → A = 0 := fun ho => by
    rcases h2 with h2 | h2
    · simp [mHasA] at h2; omega
    · exact h2
  refine ⟨fun h1 => c_spec_ValidValue ⟨_, rfl, kb h ?_⟩, fun h1 => ⟨fun h2 => kb h ?_, fun h2 => ⟨fun h3 => kb h ?_, fun h3 => ?_⟩⟩⟩
  · simp at h1; simp [mInsOk, h1]
  · simp at h1 h2; simp [mInsOk, h1, h2]
  · simp [sEq_eq] at h1 h2 h3; simp [mInsOk, h1, h2, h3]
  · simp only [sEq_eq, beq_eq_false_iff_ne, bne_eq_false_iff_eq, Bool.not_eq_false', decide_eq_true_eq] at h1 h2 h3
    subst h2; subst h3
    refine ⟨fun h4 => c_spec_l7In ⟨_, rfl, kb h ?_⟩, fun h4 => ⟨fun h5 => c_spec_l7In ⟨_, rfl, kb h ?_⟩, fun h5 => ⟨fun h6 => c_spec_l7In ⟨_, rfl, kb h ?_⟩, fun h6 => ⟨fun h7 => c_spec_l7In ⟨_, rfl, kb h ?_⟩, fun h7 => ⟨fun h8 => c_spec_l1Integer ⟨_, rfl, kb h ?_⟩, fun h8 => ⟨fun h9 => c_spec_l7In ⟨_, rfl, kb h ?_⟩, fun h9 =>
      ⟨fun h10 => c_spec_l7In ⟨_, rfl, kb h ?_⟩, fun h10 => ⟨fun h11 => c_spec_l7In ⟨_, rfl, kb h ?_⟩, fun h11 => ⟨fun h12 => c_spec_l7In ⟨_, rfl, kb h ?_⟩, fun h12 => ⟨fun h13 => ⟨fun h14 => ⟨fun h15 => kb h ?_, fun h15 => ⟨fun h16 => kb h ?_, fun h16 => kb h ?_⟩⟩, fun h14 => ⟨fun h15 => kb h ?_, fun h15 => kb h ?_⟩⟩,
        fun h13 => kb h ?_⟩⟩⟩⟩⟩⟩⟩⟩⟩⟩ <;> simp only [beq_iff_eq, beq_eq_false_iff_ne, bne_iff_ne, ne_eq, bne_eq_false_iff_eq] at *
    all_goals first | (subst_vars; rfl) | skip
    all_goals simp_all [mInsOk]
    all_goals first | omega | exact dbeq _ _ | (refine ⟨by omega, hA (by omega)⟩)
theorem c_spec_l7InsOk {cs ps is : Sl} {nm : ByteArray} {res slots : Int} {i : TIns} {R : Hp} {K : Ending → Hp → Prop} (h : ∀ R', R.le R' → K (.returned (.bool (mInsOk cs.len res slots is.len i))) R') :
    CallsR P0 F_spec_l7InsOk #[.agg #[cs.val], .agg #[.string nm, ps.val, .int .i64 res, .int .i64 slots, is.val], .agg #[.int .i64 i.1, .int .i64 i.2.1, .int .i64 i.2.2.1, .string i.2.2.2]] R K := go_spec_l7InsOk (by
  obtain ⟨op, A, N, T⟩ := i
  have h := h R (Hp.le.refl R)
  unfold vc_spec_l7InsOk
  have out : mIn op 1 16 = false → mInsOk cs.len res slots is.len (op, A, N, T) = false := fun hm => by
    simp [mIn] at hm
    simp only [mInsOk]
    rw [if_neg (by omega)]
    split
    · rfl
    · split
      · rfl
      · rw [if_neg (by omega), if_neg (by omega), if_neg (by omega), if_neg (by omega), if_neg (by omega), if_neg (by omega), if_neg (by omega), if_neg (by omega)]
        simp; omega
  have noA : mHasA op = false → A ≠ 0 → mInsOk cs.len res slots is.len (op, A, N, T) = false := fun hm ha => by
    simp [mHasA] at hm
    simp only [mInsOk]
    rw [if_neg (by omega)]
    split
    · rfl
    · split
      · rfl
      · rw [if_neg (by omega), if_neg (by omega), if_neg (by omega), if_neg (by omega), if_neg (by omega), if_neg (by omega), if_neg (by omega), if_neg (by omega)]
        simp [ha]
  refine c_spec_l7In ⟨_, rfl, fun h1 => kb h ?_, fun h1 => c_spec_l7HasA ⟨_, rfl, fun h2 => ⟨fun h3 => kb h ?_, fun h3 => insOk_tail (by simpa using h1) (.inr (by simpa using h3)) h⟩, fun h2 => insOk_tail (by simpa using h1) (.inl (by simpa using h2)) h⟩⟩
  · exact out (by simpa using h1)
  · exact noA (by simpa using h2) (by simpa using h3))
end Go.KE

/- Code: what is right but for shapes. -/
namespace Go.KE
set_option maxRecDepth 100000

/-- The first that is not right. -/
def firstFrom (ok : Nat → Bool) : Nat → Nat → Option Nat
  | 0, _ => none
  | m + 1, k => if ok k then firstFrom ok m (k + 1) else some k
def firstBad (n : Nat) (ok : Nat → Bool) : Option Nat := firstFrom ok n 0
theorem firstFrom_some {ok : Nat → Bool} : ∀ {m k j : Nat}, k ≤ j → j < k + m → ok j = false → (∀ i, k ≤ i → i < j → ok i = true) → firstFrom ok m k = some j
  | 0, k, j, h1, h2, _, _ => by omega
  | m + 1, k, j, h1, h2, h3, h4 => by
    simp only [firstFrom]
    rcases Nat.lt_or_ge k j with h | h
    · rw [if_pos (h4 k (Nat.le_refl k) h)]
      exact firstFrom_some (by omega) (by omega) h3 fun i a b => h4 i (by omega) b
    · have e : k = j := by omega
      subst e
      rw [h3]; rfl
theorem firstFrom_none {ok : Nat → Bool} : ∀ {m k : Nat}, (∀ i, k ≤ i → i < k + m → ok i = true) → firstFrom ok m k = none
  | 0, _, _ => rfl
  | m + 1, k, h => by
    simp only [firstFrom]
    rw [if_pos (h k (Nat.le_refl k) (by omega))]
    exact firstFrom_none fun i a b => h i (by omega) (by omega)
theorem firstBad_some {n j : Nat} {ok : Nat → Bool} (hj : j < n) (h : ok j = false) (hb : ∀ i, i < j → ok i = true) : firstBad n ok = some j := firstFrom_some (by omega) (by omega) h fun i _ b => hb i b
theorem firstBad_none {n : Nat} {ok : Nat → Bool} (h : ∀ i, i < n → ok i = true) : firstBad n ok = none := firstFrom_none fun i _ b => h i (by omega)

def mHeadOk (f : MFn) : Bool := nameOk f.name && decide (f.params.length ≤ 8) && mIn f.result 0 10 && f.params.all (fun p => mIn p 1 10) && mIn f.slots f.params.length 200 && mIn f.ins.length 1 50000
def psOk (l : List Int) (k : Nat) : Bool := (l.take k).all fun p => mIn p 1 10
theorem psOk_succ {l : List Int} {k : Nat} (h : k < l.length) : psOk l (k + 1) = (psOk l k && mIn l[k] 1 10) := by
  unfold psOk
  rw [List.take_succ_eq_append_getElem h, List.all_append]
  simp
theorem psOk_all (l : List Int) : psOk l l.length = l.all fun p => mIn p 1 10 := by unfold psOk; rw [List.take_length]
theorem psOk_bad {l : List Int} {k : Nat} (h : k < l.length) (hb : mIn l[k] 1 10 = false) : (l.all fun p => mIn p 1 10) = false := by
  cases e : l.all fun p => mIn p 1 10 with
  | false => rfl
  | true =>
    rw [List.all_eq_true] at e
    rw [e _ (List.getElem_mem h)] at hb
    cases hb
theorem c_impl_headOk {ps is : Sl} {nm : ByteArray} {res slots : Int} {f : MFn} {R : Hp} {K : Ending → Hp → Prop} (g : Glob R) (hf : RFn R (nm, ps, res, slots, is) f) (h : ∀ R', R.le R' → K (.returned (.bool (mHeadOk f))) R') :
    CallsR P0 F_impl_headOk #[.agg #[.string nm, ps.val, .int .i64 res, .int .i64 slots, is.val]] R K := go_impl_headOk (by
  obtain ⟨h1, hp, h3, h4, hi⟩ := hf
  obtain ⟨name, params, result, slots', ins⟩ := f
  simp only at h1 h3 h4 hp hi
  subst h1; subst h3; subst h4
  unfold vc_impl_headOk
  refine c_impl_nameOk g fun R1 l1 => ⟨_, rfl, fun a1 => kb (h R1 l1) ?_, fun a1 => ⟨fun a2 => kb (h R1 l1) ?_, fun a2 => ⟨fun a3 => kb (h R1 l1) ?_, fun a3 => ⟨fun a4 => kb (h R1 l1) ?_, fun a4 => ?_⟩⟩⟩⟩
  · simp at a1; simp [mHeadOk, a1]
  · rw [dec_t, hp.len] at a2; simp [mHeadOk]; omega
  · rw [dec_t] at a3; simp [mHeadOk, mIn]; omega
  · rw [dec_t] at a4; simp [mHeadOk, mIn]; omega
  · refine loop_up params.length 0 (fun k _ => psOk params k = true) (by omega) (by simp [psOk]) fun Inv k R2 l2 hk hq hn => ⟨fun b1 => ?_, fun b1 => ?_⟩
    · have b1 : k < params.length := by rw [dec_t, hp.len] at b1; omega
      have bad : mIn params[k] 1 10 = false → mHeadOk ⟨nm, params, res, slots, ins⟩ = false := fun hb => by
        simp [mHeadOk, psOk_bad b1 hb]
      refine ⟨_, hp.get (l1.trans l2) b1, fun b2 => kb (h R2 (l1.trans l2)) (bad ?_), fun b2 => ⟨fun b3 => kb (h R2 (l1.trans l2)) (bad ?_), fun b3 => ?_⟩⟩
      · rw [dec_t] at b2; simp [mIn]; omega
      · rw [dec_t] at b3; simp [mIn]; omega
      · rw [dec_f] at b2 b3
        obtain ⟨n', hn1, hn2⟩ := hn R2 b1 (by rw [psOk_succ b1, hq]; simp [mIn]; omega)
        exact ⟨n', hn1, by rw [wrap_up (by rw [dec_f, hp.len] at a2; omega)]; exact hn2⟩
    · have b1 : k = params.length := by rw [dec_f, hp.len] at b1; omega
      subst b1
      rw [psOk_all] at hq
      simp only [Bool.not_eq_false'] at a1
      rw [dec_f] at a3 a4
      rw [dec_f, hp.len] at a2
      rw [hp.len, hi.len]
      refine ⟨fun b2 => ⟨fun b3 => ⟨fun b4 => kb (h R2 (l1.trans l2)) ?_, fun b4 => kb (h R2 (l1.trans l2)) ?_⟩, fun b3 => kb (h R2 (l1.trans l2)) ?_⟩, fun b2 => kb (h R2 (l1.trans l2)) ?_⟩ <;> simp only [dec_t, dec_f] at *
      · have e1 : mIn res 0 10 = true := by simp [mIn]; omega
        have e2 : mIn slots params.length 200 = true := by simp [mIn]; omega
        have e3 : decide (params.length ≤ 8) = true := by simp; omega
        simp only [mHeadOk, a1, hq, e1, e2, e3, Bool.true_and]
        unfold mIn
        exact dec_eq (by omega)
      · have e : mIn ins.length 1 50000 = false := by simp [mIn]; omega
        simp [mHeadOk, e]
      · have e : mIn slots params.length 200 = false := by simp [mIn]; omega
        simp [mHeadOk, e]
      · have e : mIn slots params.length 200 = false := by simp [mIn]; omega
        simp [mHeadOk, e])
def fnOkAt (c : List MFn) (k : Nat) : Bool := match c[k]? with
  | some f => mHeadOk f && !inL ((c.take k).map (·.name)) f.name
  | none => true
theorem fnOkAt_eq {c : List MFn} {k : Nat} (h : k < c.length) : fnOkAt c k = (mHeadOk c[k] && !inL ((c.take k).map (·.name)) c[k].name) := by
  unfold fnOkAt
  rw [List.getElem?_eq_getElem h]
theorem take_names_succ {c : List MFn} {k : Nat} (h : k < c.length) : (c.take (k + 1)).map (·.name) = (c.take k).map (·.name) ++ [c[k].name] := by
  rw [List.take_succ_eq_append_getElem h, List.map_append]; rfl
theorem inL_append (l l' : List ByteArray) (s : ByteArray) : inL (l ++ l') s = (inL l s || inL l' s) := by unfold inL; rw [List.any_append]
theorem c_spec_l7FnOk {cs : Sl} {c : List MFn} {k : Nat} {R : Hp} {K : Ending → Hp → Prop} (hc : RCode R cs c) (hk : k < c.length) (hlen : c.length ≤ 60) (h : ∀ R', R.le R' → K (.returned (.bool (fnOkAt c k))) R') :
    CallsR P0 F_spec_l7FnOk #[.agg #[cs.val], .int .i64 k] R K := go_spec_l7FnOk (by
  unfold vc_spec_l7FnOk
  obtain ⟨t, e1, e2⟩ := hc.get (Hp.le.refl R) hk
  refine ⟨t, e1, ?_⟩
  obtain ⟨nm, ps, res, slots, is⟩ := t
  obtain ⟨h1, hp, h3, h4, hi⟩ := e2
  have efn := fnOkAt_eq hk
  generalize hfk : c[k] = f at *
  obtain ⟨name, params, result, slots', ins⟩ := f
  simp only at h1 h3 h4 hp hi
  subst h1; subst h3; subst h4
  have bad : mHeadOk ⟨nm, params, res, slots, ins⟩ = false → fnOkAt c k = false := fun hb => by rw [efn, hb]; rfl
  have pl := hp.len
  have il := hi.len
  simp only
  rw [pl, il]
  refine c_spec_l1NameOk fun R1 l1 => ⟨_, rfl, fun a1 => kb (h R1 l1) (bad ?_), fun a1 => ⟨fun a2 => kb (h R1 l1) (bad ?_), fun a2 => c_spec_l7In ⟨_, rfl, fun a3 => kb (h R1 l1) (bad ?_), fun a3 => c_spec_l7In ⟨_, rfl, fun a4 => kb (h R1 l1) (bad ?_), fun a4 => c_spec_l7In ⟨_, rfl, fun a5 => kb (h R1 l1) (bad ?_), fun a5 => ?_⟩⟩⟩⟩⟩
  · simp at a1; simp [mHeadOk, a1]
  · rw [dec_t] at a2; simp [mHeadOk]; omega
  · simp at a3; simp [mHeadOk, a3]
  · simp at a4; simp [mHeadOk, a4]
  · simp at a5; simp [mHeadOk, a5]
  · simp only [Bool.not_eq_false'] at a1 a3 a4 a5
    rw [dec_f] at a2
    refine loop_up params.length 0 (fun j _ => psOk params j = true) (by omega) (by simp [psOk]) fun Inv j R2 l2 hj hq hn => ⟨fun b1 => ?_, fun b1 => ?_⟩
    · have b1 : j < params.length := by rw [dec_t] at b1; omega
      refine ⟨_, hp.get (l1.trans l2) b1, c_spec_l7In ⟨_, rfl, fun b2 => kb (h R2 (l1.trans l2)) (bad ?_), fun b2 => ?_⟩⟩
      · simp at b2; simp [mHeadOk, psOk_bad b1 b2]
      · simp only [Bool.not_eq_false'] at b2
        obtain ⟨n', hn1, hn2⟩ := hn R2 b1 (by rw [psOk_succ b1, hq, b2]; rfl)
        exact ⟨n', hn1, by rw [wrap_up (by omega)]; exact hn2⟩
    · have b1 : j = params.length := by rw [dec_f] at b1; omega
      subst b1
      rw [psOk_all] at hq
      have good : mHeadOk ⟨nm, params, res, slots, ins⟩ = true := by
        have e3 : decide (params.length ≤ 8) = true := by simp; omega
        simp only [mHeadOk, a1, hq, a3, a4, a5, e3, Bool.true_and]
      refine loop_up k 0 (fun i _ => inL ((c.take i).map (·.name)) nm = false) (by omega) (by simp [inL]) fun Inv i R3 l3 hi' hq' hn => ⟨fun b2 => ?_, fun b2 => ?_⟩
      · have b2 : i < k := by rw [dec_t] at b2; omega
        obtain ⟨t2, e3, e4⟩ := hc.get ((l1.trans l2).trans l3) (show i < c.length by omega)
        refine ⟨t2, e3, fun b3 => kb (h R3 ((l1.trans l2).trans l3)) ?_, fun b3 => ?_⟩
        · rw [sEq_true, e4.name] at b3
          rw [efn]
          have : inL ((c.take k).map (·.name)) nm = true := inL_iff.2 (List.mem_map.2 ⟨c[i], by
            rw [List.mem_take_iff_getElem]
            exact ⟨i, by omega, rfl⟩, b3⟩)
          rw [this, Bool.not_true, Bool.and_false]
        · rw [sEq_false, e4.name] at b3
          obtain ⟨n', hn1, hn2⟩ := hn R3 b2 (by
            rw [take_names_succ (by omega), inL_append, hq']
            simp [inL, b3])
          exact ⟨n', hn1, by rw [wrap_up (by omega)]; exact hn2⟩
      · have b2 : i = k := by rw [dec_f] at b2; omega
        subst b2
        refine kb (h R3 ((l1.trans l2).trans l3)) ?_
        rw [efn, good, hq']; rfl)
def mainName : ByteArray := ⟨#[109, 97, 105, 110]⟩
def isMain (f : MFn) : Bool := decide (f.name = mainName ∧ f.params.length = 0 ∧ f.result = 2)
def mainAt (c : List MFn) (k : Nat) : Bool := match c[k]? with
  | some f => !isMain f
  | none => true
theorem mainAt_eq {c : List MFn} {k : Nat} (h : k < c.length) : mainAt c k = !isMain c[k] := by unfold mainAt; rw [List.getElem?_eq_getElem h]
/-- The number of main, -1 if there is none. -/
def mMain (c : List MFn) : Int := match firstBad c.length (mainAt c) with
  | some k => k
  | none => -1
theorem c_spec_l7Main {cs : Sl} {c : List MFn} {R : Hp} {K : Ending → Hp → Prop} (hc : RCode R cs c) (hlen : c.length ≤ 60) (h : ∀ R', R.le R' → K (.returned (.int .i64 (mMain c))) R') :
    CallsR P0 F_spec_l7Main #[.agg #[cs.val]] R K := go_spec_l7Main (by
  unfold vc_spec_l7Main
  refine loop_up c.length 0 (fun k _ => ∀ j, j < k → mainAt c j = true) (by omega) (fun j a => by omega) fun Inv k R1 l1 hk hq hn => ⟨fun b1 => ?_, fun b1 => ?_⟩
  · have b1 : k < c.length := by rw [dec_t, hc.len] at b1; omega
    obtain ⟨t, e1, e2⟩ := hc.get l1 b1
    have next : isMain c[k] = false → ∃ n', n' < c.length - k ∧ Inv n' (IntKind.wrap .i64 ((k : Int) + 1)) R1 := fun hm => by
      obtain ⟨n', hn1, hn2⟩ := hn R1 b1 (fun j a => by
        rcases Nat.lt_or_ge j k with x | x
        · exact hq j x
        · have e : j = k := by omega
          subst e
          rw [mainAt_eq b1, hm]; rfl)
      exact ⟨n', hn1, by rw [wrap_up (by omega)]; exact hn2⟩
    refine ⟨t, e1, fun b2 => ⟨t, e1, fun b3 => ⟨t, e1, fun b4 => ki (h R1 l1) ?_, fun b4 => next ?_⟩, fun b3 => next ?_⟩, fun b2 => next ?_⟩
    · rw [sEq_true, e2.name] at b2
      rw [beq_iff_eq, e2.ps.len] at b3
      rw [beq_iff_eq, e2.res] at b4
      have b3 : c[k].params.length = 0 := by omega
      have : mainAt c k = false := by rw [mainAt_eq b1]; simp [isMain, b2, b3, b4, mainName]
      unfold mMain
      rw [firstBad_some b1 this hq]
    · rw [beq_eq_false_iff_ne, e2.res] at b4; simp [isMain, b4]
    · rw [beq_eq_false_iff_ne, e2.ps.len] at b3
      have b3 : ¬ c[k].params.length = 0 := by omega
      have : isMain c[k] = false := by unfold isMain; exact decide_eq_false fun x => b3 x.2.1
      exact this
    · rw [sEq_false, e2.name] at b2
      have : ¬ c[k].name = mainName := b2
      simp [isMain, this]
  · have b1 : k = c.length := by rw [dec_f, hc.len] at b1; omega
    subst b1
    refine ki (h R1 l1) ?_
    unfold mMain
    rw [firstBad_none hq])
def insAt (c : List MFn) (f : MFn) (i : Nat) : Bool := match f.ins[i]? with
  | some x => mInsOk c.length f.result f.slots f.ins.length x
  | none => true
theorem insAt_eq {c : List MFn} {f : MFn} {i : Nat} (h : i < f.ins.length) : insAt c f i = mInsOk c.length f.result f.slots f.ins.length f.ins[i] := by unfold insAt; rw [List.getElem?_eq_getElem h]
def insBad (c : List MFn) (k : Nat) : Option Nat := match c[k]? with
  | some f => firstBad f.ins.length (insAt c f)
  | none => none
theorem insBad_eq {c : List MFn} {k : Nat} (h : k < c.length) : insBad c k = firstBad c[k].ins.length (insAt c c[k]) := by unfold insBad; rw [List.getElem?_eq_getElem h]
/-- What is wrong with a code, but for shapes. -/
def mPlain (c : List MFn) : Int × Int × Int :=
  if mIn c.length 1 60 then match firstBad c.length (fnOkAt c) with
    | some k => (2, k, 0)
    | none => match firstBad c.length (fun k => (insBad c k).isNone) with
      | some k => (3, k, ((insBad c k).getD 0 : Nat))
      | none => if mMain c < 0 then (4, 0, 0) else (0, 0, 0)
  else (1, 0, 0)
abbrev trip (r : Int × Int × Int) : Value := .tuple #[.int .i64 r.1, .int .i64 r.2.1, .int .i64 r.2.2]
theorem kt {K : Ending → Hp → Prop} {r : Int × Int × Int} {a b c : Int} {R : Hp} (h : K (.returned (trip r)) R) (e : r = (a, b, c)) : K (.returned (.tuple #[.int .i64 a, .int .i64 b, .int .i64 c])) R := by subst e; exact h
theorem mPlain_len {c : List MFn} (h : mIn c.length 1 60 = false) : mPlain c = (1, 0, 0) := by unfold mPlain; rw [h]; rfl
theorem mPlain_fn {c : List MFn} {k : Nat} (h : mIn c.length 1 60 = true) (hk : k < c.length) (hb : fnOkAt c k = false) (ha : ∀ j, j < k → fnOkAt c j = true) : mPlain c = ((2 : Int), (k : Int), (0 : Int)) := by
  unfold mPlain; rw [if_pos h, firstBad_some hk hb ha]
theorem mPlain_ins {c : List MFn} {k i : Nat} (h : mIn c.length 1 60 = true) (hk : k < c.length) (hf : ∀ j, j < c.length → fnOkAt c j = true) (ha : ∀ j, j < k → insBad c j = none) (hi : i < c[k].ins.length) (hb : insAt c c[k] i = false) (hib : ∀ j, j < i → insAt c c[k] j = true) : mPlain c = ((3 : Int), (k : Int), (i : Int)) := by
  have e : insBad c k = some i := by rw [insBad_eq hk, firstBad_some hi hb hib]
  unfold mPlain
  rw [if_pos h, firstBad_none hf]
  simp only
  rw [firstBad_some hk (by rw [e]; rfl) fun j hj => by rw [ha j hj]; rfl]
  simp only [e, Option.getD_some]
theorem mPlain_main {c : List MFn} (h : mIn c.length 1 60 = true) (hf : ∀ j, j < c.length → fnOkAt c j = true) (ha : ∀ j, j < c.length → insBad c j = none) : mPlain c = if mMain c < 0 then (4, 0, 0) else (0, 0, 0) := by
  unfold mPlain
  rw [if_pos h, firstBad_none hf]
  simp only
  rw [firstBad_none fun j hj => by rw [ha j hj]; rfl]
theorem c_spec_l7Plain {cs : Sl} {c : List MFn} {R : Hp} {K : Ending → Hp → Prop} (hc : RCode R cs c) (h : ∀ R', R.le R' → K (.returned (trip (mPlain c))) R') :
    CallsR P0 F_spec_l7Plain #[.agg #[cs.val]] R K := go_spec_l7Plain (by
  unfold vc_spec_l7Plain
  have hcl := hc.len
  refine c_spec_l7In ⟨_, rfl, fun a1 => kt (h R (Hp.le.refl R)) ?_, fun a1 => ?_⟩
  · rw [hcl] at a1; simp at a1; exact mPlain_len a1
  · rw [hcl] at a1; simp only [Bool.not_eq_false'] at a1
    have hlen : 1 ≤ c.length ∧ c.length ≤ 60 := by simp [mIn] at a1; omega
    refine loop_up c.length 0 (fun k _ => ∀ j, j < k → fnOkAt c j = true) (by omega) (fun j a => by omega) fun Inv k R1 l1 hk hq hn => ⟨fun b1 => ?_, fun b1 => ?_⟩
    · have b1 : k < c.length := by rw [dec_t, hcl] at b1; omega
      refine c_spec_l7FnOk (hc.mono l1) b1 hlen.2 fun R2 l2 => ⟨_, rfl, fun b2 => kt (h R2 (l1.trans l2)) ?_, fun b2 => ?_⟩
      · simp at b2; exact mPlain_fn a1 b1 b2 hq
      · simp at b2
        obtain ⟨n', hn1, hn2⟩ := hn R2 b1 (fun j a => by
          rcases Nat.lt_or_ge j k with x | x
          · exact hq j x
          · rw [show j = k by omega]; exact b2)
        exact ⟨n', hn1, by rw [wrap_up (by omega)]; exact hn2⟩
    · have b1 : k = c.length := by rw [dec_f, hcl] at b1; omega
      subst b1
      refine loop_up c.length 0 (fun k _ => ∀ j, j < k → insBad c j = none) (by omega) (fun j a => by omega) fun Inv k R2 l2 hk hq2 hn => ⟨fun b1 => ?_, fun b1 => ?_⟩
      · have b1 : k < c.length := by rw [dec_t, hcl] at b1; omega
        have lh := hlen
        have hil : c[k].ins.length ≤ 50000 := by
          have := hq k b1
          rw [fnOkAt_eq b1] at this
          simp [mHeadOk, mIn] at this
          omega
        refine loop_up c[k].ins.length 0 (fun i _ => ∀ j, j < i → insAt c c[k] j = true) (by omega) (fun j a => by omega) fun Inv2 i R3 l3 hi hq3 hn3 => ?_
        have l03 := (l1.trans l2).trans l3
        obtain ⟨t, e1, e2⟩ := hc.get l03 b1
        refine ⟨t, e1, fun b2 => ?_, fun b2 => ?_⟩
        · have b2 : i < c[k].ins.length := by rw [dec_t, e2.ins.len] at b2; omega
          refine ⟨t, e1, t, e1, _, e2.ins.get (Hp.le.refl _) b2, ?_⟩
          refine c_spec_l7InsOk (cs := cs) (is := t.2.2.2.2) (i := c[k].ins[i]) fun R4 l4 => ⟨_, rfl, fun b3 => kt (h R4 (l03.trans l4)) ?_, fun b3 => ?_⟩
          · simp only [Bool.not_eq_true'] at b3
            rw [hc.len, e2.res, e2.sl, e2.ins.1.symm] at b3
            exact mPlain_ins a1 b1 hq hq2 b2 (by rw [insAt_eq b2]; exact b3) hq3
          · simp only [Bool.not_eq_false'] at b3
            rw [hc.len, e2.res, e2.sl, e2.ins.1.symm] at b3
            obtain ⟨n', hn1, hn2⟩ := hn3 R4 b2 (fun j a => by
              rcases Nat.lt_or_ge j i with x | x
              · exact hq3 j x
              · have e : j = i := by omega
                subst e
                rw [insAt_eq b2]; exact b3)
            exact ⟨n', hn1, by rw [wrap_up (by omega)]; exact hn2⟩
        · have b2 : i = c[k].ins.length := by rw [dec_f, e2.ins.len] at b2; omega
          subst b2
          obtain ⟨n', hn1, hn2⟩ := hn R3 b1 (fun j a => by
            rcases Nat.lt_or_ge j k with x | x
            · exact hq2 j x
            · have e : j = k := by omega
              subst e
              rw [insBad_eq b1, firstBad_none hq3])
          exact ⟨n', hn1, by rw [wrap_up (by omega)]; exact hn2⟩
      · have b1 : k = c.length := by rw [dec_f, hcl] at b1; omega
        subst b1
        refine c_spec_l7Main (hc.mono (l1.trans l2)) hlen.2 fun R3 l3 => ⟨_, rfl, fun b2 => kt (h R3 ((l1.trans l2).trans l3)) ?_, fun b2 => kt (h R3 ((l1.trans l2).trans l3)) ?_⟩
        · rw [dec_t] at b2; rw [mPlain_main a1 hq hq2, if_pos b2]
        · rw [dec_f] at b2; rw [mPlain_main a1 hq hq2, if_neg b2])
end Go.KE

/- Code: what is right but for shapes, as the program looks. -/
namespace Go.KE
set_option maxRecDepth 100000

theorem mGet_set {s t : ByteArray} : ∀ {m : List (ByteArray × Bool)}, mGet .str .bool s (mSet .str .bool t true m) = if s = t then some true else mGet .str .bool s m
  | [] => by
    simp only [mSet, mGet, Kd.keq]
    by_cases h : s = t <;> simp [h]
  | p :: ps => by
    simp only [mSet]
    cases e : Kd.keq .str t p.1 with
    | true =>
      simp only [Kd.keq, decide_eq_true_eq] at e
      simp only [mGet, Kd.keq]
      by_cases h : s = t
      · simp [h]
      · have : ¬ s = p.1 := fun x => h (x.trans e.symm)
        simp [h, this]
    | false =>
      simp only [Kd.keq, decide_eq_false_iff_not] at e
      simp only [mGet, Kd.keq, mGet_set (m := ps)]
      by_cases h : s = t
      · have : ¬ s = p.1 := fun x => e (h.symm.trans x)
        simp [h, e]
      · simp [h]
/-- What the map of the names seen knows. -/
def Seen (c : List MFn) (k : Nat) (m : List (ByteArray × Bool)) : Prop := ∀ s, (mGet .str .bool s m).getD false = inL ((c.take k).map (·.name)) s
theorem Seen.succ {c : List MFn} {k : Nat} {m : List (ByteArray × Bool)} (h : Seen c k m) (hk : k < c.length) : Seen c (k + 1) (mSet .str .bool c[k].name true m) := fun s => by
  rw [mGet_set, take_names_succ hk, inL_append]
  by_cases e : s = c[k].name
  · rw [if_pos e, e]
    have : inL [c[k].name] c[k].name = true := inL_iff.2 (by simp)
    rw [this, Bool.or_true]; rfl
  · rw [if_neg e, h s]
    have : inL [c[k].name] s = false := by
      cases x : inL [c[k].name] s with
      | false => rfl
      | true => exact absurd (by simpa using inL_iff.1 x) e
    rw [this, Bool.or_false]
theorem loop_upX {α : Type} {R : Hp} (N k0 : Nat) (x0 : α) (Q : Nat → α → Hp → Prop) {B : (Nat → α → Hp → Prop) → Nat → α → Hp → Prop} (V : Nat → α → Prop) (hv : V k0 x0) (hk : k0 ≤ N) (h0 : Q k0 x0 R)
    (h : ∀ (Inv : Nat → α → Hp → Prop) (k : Nat) (x : α) (R' : Hp), R.le R' → k ≤ N → V k x → Q k x R' → (∀ x' R'', k < N → V (k + 1) x' → Q (k + 1) x' R'' → ∃ n', n' < N - k ∧ Inv n' x' R'') → B Inv (N - k) x R') :
    ∃ Inv : Nat → α → Hp → Prop, (∃ n, Inv n x0 R) ∧ ∀ n x R', R.le R' → Inv n x R' → B Inv n x R' := by
  refine ⟨fun n x R' => ∃ k : Nat, V k x ∧ k ≤ N ∧ n = N - k ∧ Q k x R', ⟨N - k0, k0, hv, hk, rfl, h0⟩, ?_⟩
  rintro n x R' hl ⟨k, hvx, hkN, rfl, hq⟩
  exact h _ k x R' hl hkN hvx hq fun x' R'' hlt hv' hq' => ⟨N - (k + 1), by omega, k + 1, hv', by omega, rfl, hq'⟩
theorem insOk_wrapAt {c : List MFn} {nm : ByteArray} {cs ps is : Sl} {res slots : Int} {i : TIns} {R : Hp} {K : Ending → Hp → Prop} {b : Bool} (e : mInsOk cs.len res slots is.len i = b) (h : ∀ R', R.le R' → K (.returned (.bool b)) R') :
    CallsR P0 F_impl_insOk #[.agg #[cs.val], .agg #[.string nm, ps.val, .int .i64 res, .int .i64 slots, is.val], .agg #[.int .i64 i.1, .int .i64 i.2.1, .int .i64 i.2.2.1, .string i.2.2.2]] R K := c_impl_insOk (e ▸ h)
theorem c_impl_checkParts {cs : Sl} {c : List MFn} {R : Hp} {K : Ending → Hp → Prop} (g : Glob R) (hc : RCode R cs c) (h : ∀ R', R.le R' → K (.returned (trip (mPlain c))) R') :
    CallsR P0 F_impl_checkParts #[.agg #[cs.val]] R K := go_impl_checkParts (by
  unfold vc_impl_checkParts
  have hcl : (cs.len : Int) = (c.length : Int) := by rw [hc.len]
  refine ⟨fun a1 => kt (h R (Hp.le.refl R)) ?_, fun a1 => ⟨fun a2 => kt (h R (Hp.le.refl R)) ?_, fun a2 => ?_⟩⟩
  · rw [dec_t, hcl] at a1; exact mPlain_len (by simp [mIn]; omega)
  · rw [dec_t, hcl] at a2; exact mPlain_len (by simp [mIn]; omega)
  · rw [dec_f, hcl] at a1 a2
    have hlen : 1 ≤ c.length ∧ c.length ≤ 60 := by omega
    have a1 : mIn c.length 1 60 = true := by simp [mIn]; omega
    refine loop_upX c.length 0 _ (fun k x _ => Seen c k x.1 ∧ ∀ j, j < k → fnOkAt c j = true) (fun k x => x.2 = (k : Int)) rfl (by omega) ⟨fun s => rfl, fun j a => by omega⟩ fun Inv k x R1 l1 hk hx hq hn => ?_
    obtain ⟨m, x2⟩ := x
    simp only at hx; subst hx
    refine ⟨fun b1 => ?_, fun b1 => ?_⟩
    · have b1 : k < c.length := by rw [dec_t, hcl] at b1; omega
      obtain ⟨t, e1, e2⟩ := hc.get l1 b1
      refine ⟨t, e1, ?_⟩
      have e2' := e2
      obtain ⟨nm, ps, res, slots, is⟩ := t
      have en : nm = c[k].name := e2.name
      refine c_impl_headOk (g.mono l1) e2 fun R2 l2 => ⟨_, rfl, fun b2 => kt (h R2 (l1.trans l2)) ?_, fun b2 => ⟨fun b3 => kt (h R2 (l1.trans l2)) ?_, fun b3 => ?_⟩⟩
      · simp at b2
        exact mPlain_fn a1 b1 (by rw [fnOkAt_eq b1, b2]; rfl) hq.2
      · have b3 : inL ((c.take k).map (·.name)) c[k].name = true := by rw [← en, ← hq.1]; exact b3
        exact mPlain_fn a1 b1 (by rw [fnOkAt_eq b1, b3, Bool.not_true, Bool.and_false]) hq.2
      · have b3 : inL ((c.take k).map (·.name)) c[k].name = false := by rw [← en, ← hq.1]; exact b3
        simp at b2
        refine hn _ R2 b1 (wrap_up (by omega)) ⟨?_, fun j a => ?_⟩
        · simp only [en]; exact hq.1.succ b1
        · rcases Nat.lt_or_ge j k with x | x
          · exact hq.2 j x
          · have e : j = k := by omega
            subst e
            rw [fnOkAt_eq b1, b2, b3]; rfl
    · have b1 : k = c.length := by rw [dec_f, hcl] at b1; omega
      subst b1
      obtain ⟨_, hq⟩ := hq
      refine loop_up c.length 0 (fun k _ => ∀ j, j < k → insBad c j = none) (by omega) (fun j a => by omega) fun Inv k R2 l2 hk hq2 hn => ⟨fun b1 => ?_, fun b1 => ?_⟩
      · have b1 : k < c.length := by rw [dec_t, hcl] at b1; omega
        have hil : c[k].ins.length ≤ 50000 := by
          have := hq k b1
          rw [fnOkAt_eq b1] at this
          simp [mHeadOk, mIn] at this
          omega
        obtain ⟨t, e1, e2⟩ := hc.get (l1.trans l2) b1
        refine ⟨t, e1, ?_⟩
        refine loop_up c[k].ins.length 0 (fun i _ => ∀ j, j < i → insAt c c[k] j = true) (by omega) (fun j a => by omega) fun Inv2 i R3 l3 hi hq3 hn3 => ?_
        have l03 := (l1.trans l2).trans l3
        refine ⟨fun b2 => ?_, fun b2 => ?_⟩
        · have b2 : i < c[k].ins.length := by rw [dec_t, e2.ins.len] at b2; omega
          refine ⟨_, e2.ins.get l3 b2, ?_⟩
          refine insOk_wrapAt (c := c) (b := insAt c c[k] i) (by rw [insAt_eq b2, hc.len, e2.res, e2.sl, e2.ins.1]) fun R4 l4 => ⟨_, rfl, fun b3 => kt (h R4 (l03.trans l4)) ?_, fun b3 => ?_⟩
          · simp only [Bool.not_eq_true'] at b3
            exact mPlain_ins a1 b1 hq hq2 b2 b3 hq3
          · simp only [Bool.not_eq_false'] at b3
            obtain ⟨n', hn1, hn2⟩ := hn3 R4 b2 (fun j a => by
              rcases Nat.lt_or_ge j i with x | x
              · exact hq3 j x
              · rw [show j = i by omega]; exact b3)
            exact ⟨n', hn1, by rw [wrap_up (by omega)]; exact hn2⟩
        · have b2 : i = c[k].ins.length := by rw [dec_f, e2.ins.len] at b2; omega
          subst b2
          obtain ⟨n', hn1, hn2⟩ := hn R3 b1 (fun j a => by
            rcases Nat.lt_or_ge j k with x | x
            · exact hq2 j x
            · have e : j = k := by omega
              subst e
              rw [insBad_eq b1, firstBad_none hq3])
          exact ⟨n', hn1, by rw [wrap_up (by omega)]; exact hn2⟩
      · have b1 : k = c.length := by rw [dec_f, hcl] at b1; omega
        subst b1
        refine loop_up c.length 0 (fun k _ => ∀ j, j < k → mainAt c j = true) (by omega) (fun j a => by omega) fun Inv k R3 l3 hk hq3 hn => ⟨fun b1 => ?_, fun b1 => ?_⟩
        · have b1 : k < c.length := by rw [dec_t, hcl] at b1; omega
          have l03 := (l1.trans l2).trans l3
          obtain ⟨t, e1, e2⟩ := hc.get l03 b1
          have next : isMain c[k] = false → ∃ n', n' < c.length - k ∧ Inv n' (IntKind.wrap .i64 ((k : Int) + 1)) R3 := fun hm => by
            obtain ⟨n', hn1, hn2⟩ := hn R3 b1 (fun j a => by
              rcases Nat.lt_or_ge j k with x | x
              · exact hq3 j x
              · have e : j = k := by omega
                subst e
                rw [mainAt_eq b1, hm]; rfl)
            exact ⟨n', hn1, by rw [wrap_up (by omega)]; exact hn2⟩
          refine ⟨t, e1, fun b2 => ⟨fun b3 => ⟨fun b4 => kt (h R3 l03) ?_, fun b4 => next ?_⟩, fun b3 => next ?_⟩, fun b2 => next ?_⟩
          · rw [sEq_true, e2.name] at b2
            rw [beq_iff_eq, e2.ps.len] at b3
            rw [beq_iff_eq, e2.res] at b4
            have b3 : c[k].params.length = 0 := by omega
            have : mainAt c k = false := by rw [mainAt_eq b1]; simp [isMain, b2, b3, b4, mainName]
            have e : mMain c = (k : Int) := by unfold mMain; rw [firstBad_some b1 this hq3]
            rw [mPlain_main a1 hq hq2, e, if_neg (by omega)]
          · rw [beq_eq_false_iff_ne, e2.res] at b4; simp [isMain, b4]
          · rw [beq_eq_false_iff_ne, e2.ps.len] at b3
            have b3 : ¬ c[k].params.length = 0 := by omega
            have : isMain c[k] = false := by unfold isMain; exact decide_eq_false fun x => b3 x.2.1
            exact this
          · rw [sEq_false, e2.name] at b2
            have : ¬ c[k].name = mainName := b2
            simp [isMain, this]
        · have b1 : k = c.length := by rw [dec_f, hcl] at b1; omega
          subst b1
          refine kt (h R3 ((l1.trans l2).trans l3)) ?_
          have e : mMain c = -1 := by unfold mMain; rw [firstBad_none hq3]
          rw [mPlain_main a1 hq hq2, e]; rfl)
end Go.KE

/- Types of steps. -/
namespace Go.KE
set_option maxRecDepth 100000

def mUn (k t : Int) : Int := if k = 2 then (if t = 1 then 1 else 0) else if mInt t then t else 0
theorem c_spec_l3Un {k t : Int} {R : Hp} {K : Ending → Hp → Prop} (h : K (.returned (.int .i64 (mUn k t))) R) : CallsR P0 F_spec_l3Un #[.int .i64 k, .int .i64 t] R K := go_spec_l3Un (by
  unfold vc_spec_l3Un
  refine ⟨fun h1 => ⟨fun h2 => ki h ?_, fun h2 => ki h ?_⟩, fun h1 => c_spec_l1Integer ⟨_, rfl, fun h2 => ki h ?_, fun h2 => ki h ?_⟩⟩ <;> simp at h1 h2 <;> simp [mUn, h1, h2])
theorem c_impl_unType {k t : Int} {R : Hp} {K : Ending → Hp → Prop} (hk : 1 ≤ k ∧ k ≤ 3) (h : K (.returned (.int .i64 (mUn k t))) R) : CallsR P0 F_impl_unType #[.int .i64 k, .int .i64 t] R K := go_impl_unType (by
  unfold vc_impl_unType
  have h3 : k = 1 ∨ k = 2 ∨ k = 3 := by omega
  rcases h3 with rfl | rfl | rfl
  · exact ⟨fun x => by simp at x, fun _ => ⟨fun _ => c_impl_integer ⟨_, rfl, fun h2 => ki h (by simp [mUn, h2]), fun h2 => ki h (by simp [mUn, h2])⟩, fun x => by simp at x⟩⟩
  · exact ⟨fun _ => ⟨fun h2 => ki h (by simp at h2; simp [mUn, h2]), fun h2 => ⟨fun x => by simp at x, fun _ => ⟨fun x => by simp at x, fun _ => ki h (by simp at h2; simp [mUn, h2])⟩⟩⟩, fun x => by simp at x⟩
  · exact ⟨fun x => by simp at x, fun _ => ⟨fun x => by simp at x, fun _ => ⟨fun _ => c_impl_integer ⟨_, rfl, fun h2 => ki h (by simp [mUn, h2]), fun h2 => ki h (by simp [mUn, h2])⟩, fun x => by simp at x⟩⟩⟩)
def mBin (k s t : Int) : Int := if s ≠ t then 0 else if s = 0 then 0 else if k = 1 ∨ k = 2 then (if s = 1 then 1 else 0) else if k = 3 ∨ k = 4 then 1 else
  if k = 5 ∨ k = 6 ∨ k = 7 ∨ k = 8 then (if s = 1 then 0 else 1) else if k = 9 then (if s = 1 then 0 else s) else if mInt s then s else 0
theorem c_spec_l3Bin {k s t : Int} {R : Hp} {K : Ending → Hp → Prop} (h : K (.returned (.int .i64 (mBin k s t))) R) : CallsR P0 F_spec_l3Bin #[.int .i64 k, .int .i64 s, .int .i64 t] R K := go_spec_l3Bin (by
  unfold vc_spec_l3Bin
  refine ⟨fun h1 => ki h ?_, fun h1 => ⟨fun h2 => ki h ?_, fun h2 => ⟨fun h3 => ⟨fun h4 => ki h ?_, fun h4 => ki h ?_⟩, fun h3 => ⟨fun h4 => ⟨fun h5 => ki h ?_, fun h5 => ki h ?_⟩, fun h4 => ⟨fun h5 => ki h ?_, fun h5 => ⟨fun h6 => ki h ?_, fun h6 =>
    ⟨fun h7 => ⟨fun h8 => ki h ?_, fun h8 => ki h ?_⟩, fun h7 => ⟨fun h8 => ⟨fun h9 => ki h ?_, fun h9 => ki h ?_⟩, fun h8 => ⟨fun h9 => ⟨fun h10 => ki h ?_, fun h10 => ki h ?_⟩, fun h9 => ⟨fun h10 => ⟨fun h11 => ki h ?_, fun h11 => ki h ?_⟩, fun h10 => ⟨fun h11 => ⟨fun h12 => ki h ?_, fun h12 => ki h ?_⟩, fun h11 =>
      c_spec_l1Integer ⟨_, rfl, fun h12 => ki h ?_, fun h12 => ki h ?_⟩⟩⟩⟩⟩⟩⟩⟩⟩⟩⟩⟩ <;> simp_all [mBin])
theorem c_impl_binType {k s t : Int} {R : Hp} {K : Ending → Hp → Prop} (hk : 3 ≤ k ∧ k ≤ 18) (hs : 0 ≤ s ∧ s ≤ 10) (h : K (.returned (.int .i64 (mBin k s t))) R) : CallsR P0 F_impl_binType #[.int .i64 k, .int .i64 s, .int .i64 t] R K := go_impl_binType (by
  unfold vc_impl_binType
  refine ⟨fun h1 => ki h ?_, fun h1 => ⟨fun h2 => ki h ?_, fun h2 => ⟨fun h3 => ⟨fun h4 => ki h ?_, fun h4 => ki h ?_⟩, fun h3 => ⟨fun h4 => ⟨fun h5 => ki h ?_, fun h5 => ki h ?_⟩, fun h4 => ⟨fun h5 => ki h ?_, fun h5 => ⟨fun h6 => ki h ?_, fun h6 =>
    ⟨fun h7 => ⟨fun h8 => c_impl_integer ⟨_, rfl, fun h9 => ki h ?_, fun h9 => ⟨fun h10 => ki h ?_, fun h10 => ki h ?_⟩⟩, fun h8 => ⟨fun h9 => c_impl_integer ⟨_, rfl, fun h10 => ki h ?_, fun h10 => ⟨fun h11 => ki h ?_, fun h11 => ki h ?_⟩⟩, fun h9 => ⟨fun h10 => ⟨fun h11 => c_impl_integer ⟨_, rfl, fun h12 => ki h ?_, fun h12 => ki h ?_⟩, fun h11 => ki h ?_⟩, fun h10 => ki h ?_⟩⟩⟩,
      fun h7 => ⟨fun h8 => c_impl_integer ⟨_, rfl, fun h9 => ki h ?_, fun h9 => ⟨fun h10 => ki h ?_, fun h10 => ki h ?_⟩⟩, fun h8 => ⟨fun h9 => ⟨fun h10 => c_impl_integer ⟨_, rfl, fun h11 => ki h ?_, fun h11 => ki h ?_⟩, fun h10 => ki h ?_⟩, fun h9 => ki h ?_⟩⟩⟩⟩⟩⟩⟩⟩⟩ <;>
    simp only [dec_t, dec_f, beq_iff_eq, beq_eq_false_iff_ne, bne_iff_ne, bne_eq_false_iff_eq, ne_eq, mInt] at * <;> unfold mBin mInt <;> clear h <;> simp_all <;> omega)
def mGoes (x : TIns) (i : Int) : List Int := if x.1 = 12 ∨ x.1 = 13 then [] else if x.1 = 10 then [x.2.1] else if x.1 = 11 then [x.2.1, i + 1] else [i + 1]
theorem ks {K : Ending → Hp → Prop} {R : Hp} {s : Sl} {xs ys : List Int} {Q : List Int → Prop} (hq : Q xs) (e : xs = ys) : Q ys := e ▸ hq
theorem c_spec_l7Goes {x : TIns} {i : Int} {R : Hp} {K : Ending → Hp → Prop} (hi : 0 ≤ i ∧ i < 9223372036854775807) (h : ∀ s R', R.le R' → RSlice R' s kI (mGoes x i) → K (.returned s.val) R') : CallsR P0 F_spec_l7Goes #[.agg #[.int .i64 x.1, .int .i64 x.2.1, .int .i64 x.2.2.1, .string x.2.2.2], .int .i64 i] R K := go_spec_l7Goes (by
  unfold vc_spec_l7Goes
  rw [wrap_in (by omega)]
  refine ⟨fun h1 s R1 f => h s R1 f.le (by simp at h1; simpa [mGoes, h1] using f.sl), fun h1 => ⟨fun h2 s R1 f => h s R1 f.le (by simp at h2; simpa [mGoes, h2] using f.sl), fun h2 => ⟨fun h3 s R1 f => h s R1 f.le (by simp at h3; simpa [mGoes, h3] using f.sl), fun h3 => ⟨fun h4 s R1 f => h s R1 f.le (by simp at h4; simpa [mGoes, h4] using f.sl), fun h4 s R1 f => h s R1 f.le (by simp at h1 h2 h3 h4; simpa [mGoes, h1, h2, h3, h4] using f.sl)⟩⟩⟩⟩)
theorem nil_slice (R : Hp) (ks : List Kd) : RSlice R ⟨none, 0, 0⟩ ks [] := ⟨rfl, Nat.le_refl 0, fun k x e => by simp at e⟩
theorem c_impl_next {x : TIns} {i : Int} {R : Hp} {K : Ending → Hp → Prop} (hi : 0 ≤ i ∧ i < 9223372036854775807) (h : ∀ s R', R.le R' → RSlice R' s kI (mGoes x i) → K (.returned s.val) R') : CallsR P0 F_impl_next #[.agg #[.int .i64 x.1, .int .i64 x.2.1, .int .i64 x.2.2.1, .string x.2.2.2], .int .i64 i] R K := go_impl_next (by
  unfold vc_impl_next
  rw [wrap_in (by omega)]
  refine ⟨fun h1 => h ⟨none, 0, 0⟩ R (Hp.le.refl R) (by simp at h1; simpa [mGoes, h1] using nil_slice R kI), fun h1 => ⟨fun h2 => h ⟨none, 0, 0⟩ R (Hp.le.refl R) (by simp at h2; simpa [mGoes, h2] using nil_slice R kI), fun h2 => ⟨fun h3 s R1 f => h s R1 f.le (by simp at h3; simpa [mGoes, h3] using f.sl), fun h3 => ⟨fun h4 s R1 f => h s R1 f.le (by simp at h4; simpa [mGoes, h4] using f.sl), fun h4 s R1 f => h s R1 f.le (by simp at h1 h2 h3 h4; simpa [mGoes, h1, h2, h3, h4] using f.sl)⟩⟩⟩⟩)
theorem same_loop {a b : Sl} {xs ys : List Int} {R : Hp} {K : Ending → Hp → Prop} (ha : RSlice R a kI xs) (hb : RSlice R b kI ys) (hl : xs.length < 9223372036854775807) (h : ∀ R', R.le R' → K (.returned (.bool (decide (xs = ys)))) R') :
    ((((a.len : Int) != (b.len : Int)) = true) → (K (Ending.returned (Value.bool false)) R)) ∧ ((((a.len : Int) != (b.len : Int)) = false) → (∃ Inv : Nat → Int → Hp → Prop, ((∃ n : Nat, (Inv n (0 : Int) R)) ∧ (∀ n : Nat, (∀ x : Int, (∀ R' : Hp, ((Hp.le R R') → ((Inv n x R') → (((decide (x < (a.len : Int)) = true) → (∃ y : Int, ((RElem R' a [Kd.int IntKind.i64] x y) ∧ (∃ y_1 : Int, ((RElem R' b [Kd.int IntKind.i64] x y_1) ∧ ((((y != y_1) = true) → (K (Ending.returned (Value.bool false)) R')) ∧ (((y != y_1) = false) → (∃ n' : Nat, ((n' < n) ∧ (Inv n' (IntKind.wrap IntKind.i64 (x + (1 : Int))) R')))))))))) ∧ ((decide (x < (a.len : Int)) = false) → (K (Ending.returned (Value.bool true)) R'))))))))))) := by
  rw [ha.len, hb.len]
  refine ⟨fun a1 => kb (h R (Hp.le.refl R)) ?_, fun a1 => ?_⟩
  · simp at a1; exact decide_eq_false fun e => a1 (by rw [e])
  · simp at a1
    refine loop_up xs.length 0 (fun k _ => xs.take k = ys.take k) (by omega) rfl fun Inv k R1 l1 hk hq hn => ⟨fun b1 => ?_, fun b1 => ?_⟩
    · have b1 : k < xs.length := by rw [dec_t] at b1; omega
      refine ⟨_, ha.get l1 b1, _, hb.get l1 (show k < ys.length by omega), fun b2 => kb (h R1 l1) ?_, fun b2 => ?_⟩
      · simp at b2; exact decide_eq_false fun e => b2 (by subst e; rfl)
      · simp at b2
        obtain ⟨n', hn1, hn2⟩ := hn R1 b1 (by rw [List.take_succ_eq_append_getElem b1, List.take_succ_eq_append_getElem (show k < ys.length by omega), hq]; exact congrArg (fun z => ys.take k ++ [z]) b2)
        exact ⟨n', hn1, by rw [wrap_up (by omega)]; exact hn2⟩
    · have b1 : k = xs.length := by rw [dec_f] at b1; omega
      subst b1
      rw [List.take_length] at hq
      rw [show xs.length = ys.length by omega, List.take_length] at hq
      exact kb (h R1 l1) (by simp [hq])
theorem c_spec_l7SameInts {a b : Sl} {xs ys : List Int} {R : Hp} {K : Ending → Hp → Prop} (ha : RSlice R a kI xs) (hb : RSlice R b kI ys) (hl : xs.length < 9223372036854775807) (h : ∀ R', R.le R' → K (.returned (.bool (decide (xs = ys)))) R') : CallsR P0 F_spec_l7SameInts #[a.val, b.val] R K := go_spec_l7SameInts (same_loop ha hb hl h)
theorem c_impl_sameInts {a b : Sl} {xs ys : List Int} {R : Hp} {K : Ending → Hp → Prop} (ha : RSlice R a kI xs) (hb : RSlice R b kI ys) (hl : xs.length < 9223372036854775807) (h : ∀ R', R.le R' → K (.returned (.bool (decide (xs = ys)))) R') : CallsR P0 F_impl_sameInts #[a.val, b.val] R K := go_impl_sameInts (same_loop ha hb hl h)
end Go.KE

/- Types of the built-in words. -/
namespace Go.KE
set_option maxRecDepth 100000

def mWants (a : Int) : List Int × Int := if a = 1 ∨ a = 3 then ([2], 2) else if a = 2 then ([2], 1) else if a = 4 then ([2, 2], 2) else if a = 5 then ([], 2) else if a = 6 ∨ a = 12 then ([2], 10) else
  if a = 7 then ([2, 10], 3) else if a = 8 then ([2, 10, 10], 2) else if a = 9 then ([2, 2], 10) else if a = 10 then ([3], 2) else ([0], 2)
theorem c_spec_l3Wants {a : Int} {R : Hp} {K : Ending → Hp → Prop} (h : ∀ s R', R.le R' → RSlice R' s kI (mWants a).1 → K (.returned (.tuple #[s.val, .int .i64 (mWants a).2])) R') : CallsR P0 F_spec_l3Wants #[.int .i64 a] R K := go_spec_l3Wants (by
  unfold vc_spec_l3Wants
  have q : ∀ (l : List Int) (r : Int), mWants a = (l, r) → ∀ s R', Frz R R' s kI l → K (.returned (.tuple #[s.val, .int .i64 r])) R' := fun l r e s R' f => by
    have := h s R' f.le
    rw [e] at this
    exact this f.sl
  refine ⟨fun h1 => q _ _ ?_, fun h1 => ⟨fun h2 => q _ _ ?_, fun h2 => ⟨fun h3 => q _ _ ?_, fun h3 => ⟨fun h4 => q _ _ ?_, fun h4 => ⟨fun h5 => q _ _ ?_, fun h5 => ⟨fun h6 => q _ _ ?_, fun h6 => ⟨fun h7 => q _ _ ?_, fun h7 => ⟨fun h8 => q _ _ ?_, fun h8 => ⟨fun h9 => q _ _ ?_, fun h9 => ⟨fun h10 => q _ _ ?_, fun h10 => ⟨fun h11 => q _ _ ?_, fun h11 => q _ _ ?_⟩⟩⟩⟩⟩⟩⟩⟩⟩⟩⟩ <;>
    clear q h <;> simp_all [mWants])
def okArg (w t : Int) : Bool := decide (t = w ∨ w = 0 ∧ mInt t = true)
def argsOk (ws ts : List Int) (k : Nat) : Bool := okArg (ws.getD k 0) (ts.getD k 0)
def mBuilt (a : Int) (ts : List Int) : Int := if (mWants a).1.length = ts.length ∧ firstBad ts.length (argsOk (mWants a).1 ts) = none then (mWants a).2 else 0
theorem argsOk_eq {ws ts : List Int} {k : Nat} (h1 : k < ws.length) (h2 : k < ts.length) : argsOk ws ts k = okArg ws[k] ts[k] := by
  unfold argsOk
  simp [List.getD, List.getElem?_eq_getElem h1, List.getElem?_eq_getElem h2]
theorem mBuilt_len {a : Int} {ts : List Int} (h : (mWants a).1.length ≠ ts.length) : mBuilt a ts = 0 := by unfold mBuilt; rw [if_neg fun x => h x.1]
theorem mBuilt_bad {a : Int} {ts : List Int} {k : Nat} (hk : k < ts.length) (h : argsOk (mWants a).1 ts k = false) (hb : ∀ j, j < k → argsOk (mWants a).1 ts j = true) : mBuilt a ts = 0 := by
  unfold mBuilt; rw [firstBad_some hk h hb, if_neg fun x => by cases x.2]
theorem mBuilt_ok {a : Int} {ts : List Int} (hl : (mWants a).1.length = ts.length) (h : ∀ j, j < ts.length → argsOk (mWants a).1 ts j = true) : mBuilt a ts = (mWants a).2 := by
  unfold mBuilt; rw [if_pos ⟨hl, firstBad_none h⟩]
theorem c_spec_l3Built {a : Int} {b : Sl} {ts : List Int} {R : Hp} {K : Ending → Hp → Prop} (hb : RSlice R b kI ts) (h : ∀ R', R.le R' → K (.returned (.int .i64 (mBuilt a ts))) R') : CallsR P0 F_spec_l3Built #[.int .i64 a, b.val] R K := go_spec_l3Built (by
  unfold vc_spec_l3Built
  refine c_spec_l3Wants fun s R1 l1 hs => ⟨s, _, rfl, ?_⟩
  rw [hs.len, hb.len]
  refine ⟨fun a1 => ki (h R1 l1) ?_, fun a1 => ?_⟩
  · simp at a1; exact mBuilt_len fun e => a1 (by omega)
  · simp at a1
    have hl : (mWants a).1.length = ts.length := by omega
    have hsm : (mWants a).1.length ≤ 3 := by unfold mWants; (repeat' split) <;> decide
    refine loop_up ts.length 0 (fun k _ => ∀ j, j < k → argsOk (mWants a).1 ts j = true) (by omega) (fun j x => by omega) fun Inv k R2 l2 hk hq hn => ⟨fun b1 => ?_, fun b1 => ?_⟩
    · have b1 : k < ts.length := by rw [dec_t] at b1; omega
      have b1' : k < (mWants a).1.length := by omega
      have eq := argsOk_eq b1' b1
      have next : ∀ R', okArg (mWants a).1[k] ts[k] = true → ∃ n', n' < ts.length - k ∧ Inv n' (IntKind.wrap .i64 ((k : Int) + 1)) R' := fun R' ho => by
        obtain ⟨n', hn1, hn2⟩ := hn R' b1 (fun j x => by
          rcases Nat.lt_or_ge j k with y | y
          · exact hq j y
          · rw [show j = k by omega, eq]; exact ho)
        exact ⟨n', hn1, by rw [wrap_up (by omega)]; exact hn2⟩
      refine ⟨_, hb.get (l1.trans l2) b1, _, hs.get l2 b1', fun b2 => ⟨_, hs.get l2 b1', fun b3 => ki (h R2 (l1.trans l2)) ?_, fun b3 => ⟨_, hb.get (l1.trans l2) b1, c_spec_l1Integer ⟨_, rfl, fun b4 => ki (h R2 (l1.trans l2)) ?_, fun b4 => next R2 ?_⟩⟩⟩, fun b2 => next R2 ?_⟩
      · simp at b2 b3; exact mBuilt_bad b1 (by rw [eq]; simp [okArg, b2, b3]) hq
      · simp at b2 b4; exact mBuilt_bad b1 (by rw [eq]; simp [okArg, b2, b4]) hq
      · simp at b3 b4; simp [okArg, b3, b4]
      · simp at b2; simp [okArg, b2]
    · have b1 : k = ts.length := by rw [dec_f] at b1; omega
      subst b1
      exact ki (h R2 (l1.trans l2)) (mBuilt_ok hl hq))
def wantsI (a : Int) : List Int := if a = 11 then [-1] else (mWants a).1
theorem bgL_get {a : Int} (h : 1 ≤ a ∧ a ≤ 12) : bgL[a.toNat]? = some (mWants a).2 := by
  have : a = 1 ∨ a = 2 ∨ a = 3 ∨ a = 4 ∨ a = 5 ∨ a = 6 ∨ a = 7 ∨ a = 8 ∨ a = 9 ∨ a = 10 ∨ a = 11 ∨ a = 12 := by omega
  rcases this with rfl | rfl | rfl | rfl | rfl | rfl | rfl | rfl | rfl | rfl | rfl | rfl <;> rfl
theorem wantsI_len (a : Int) : (wantsI a).length = (mWants a).1.length := by
  unfold wantsI
  split
  · rename_i h; subst h; rfl
  · rfl
theorem okArgI {a : Int} {k : Nat} {t : Int} (h1 : k < (wantsI a).length) (h2 : k < (mWants a).1.length) (ha : 1 ≤ a ∧ a ≤ 12) (ht : 1 ≤ t ∧ t ≤ 10) : okArg (mWants a).1[k] t = (((wantsI a)[k] == -1) && mInt t || ((wantsI a)[k] == t)) := by
  have : a = 1 ∨ a = 2 ∨ a = 3 ∨ a = 4 ∨ a = 5 ∨ a = 6 ∨ a = 7 ∨ a = 8 ∨ a = 9 ∨ a = 10 ∨ a = 11 ∨ a = 12 := by omega
  have key : ∀ w : Int, 1 ≤ w → okArg w t = ((w == -1) && mInt t || (w == t)) := fun w hw => by
    have e1 : (w == -1) = false := by simp; omega
    rw [e1, Bool.false_and, Bool.false_or, Bool.eq_iff_iff]
    simp [okArg]; omega
  have c1 : ∀ {w : Int} {k : Nat} (h1 : k < [w].length) (h2 : k < [w].length), 1 ≤ w → okArg [w][k] t = (([w][k] == -1) && mInt t || ([w][k] == t)) := fun {w k} h1 h2 hw => by
    have : k = 0 := by simp at h1; exact h1
    subst this; exact key w hw
  have c2 : ∀ {v w : Int} {k : Nat} (h1 : k < [v, w].length) (h2 : k < [v, w].length), 1 ≤ v → 1 ≤ w → okArg [v, w][k] t = (([v, w][k] == -1) && mInt t || ([v, w][k] == t)) := fun {v w k} h1 h2 hv hw => by
    have : k = 0 ∨ k = 1 := by simp at h1; omega
    rcases this with rfl | rfl
    · exact key v hv
    · exact key w hw
  have c3 : ∀ {u v w : Int} {k : Nat} (h1 : k < [u, v, w].length) (h2 : k < [u, v, w].length), 1 ≤ u → 1 ≤ v → 1 ≤ w → okArg [u, v, w][k] t = (([u, v, w][k] == -1) && mInt t || ([u, v, w][k] == t)) := fun {u v w k} h1 h2 hu hv hw => by
    have : k = 0 ∨ k = 1 ∨ k = 2 := by simp at h1; omega
    rcases this with rfl | rfl | rfl
    · exact key u hu
    · exact key v hv
    · exact key w hw
  rcases this with rfl | rfl | rfl | rfl | rfl | rfl | rfl | rfl | rfl | rfl | rfl | rfl
  · exact c1 h1 h2 (by decide)
  · exact c1 h1 h2 (by decide)
  · exact c1 h1 h2 (by decide)
  · exact c2 h1 h2 (by decide) (by decide)
  · exact absurd h2 (by simp [mWants])
  · exact c1 h1 h2 (by decide)
  · exact c2 h1 h2 (by decide) (by decide)
  · exact c3 h1 h2 (by decide) (by decide) (by decide)
  · exact c2 h1 h2 (by decide) (by decide)
  · exact c1 h1 h2 (by decide)
  · have : k = 0 := by simp [mWants] at h2; exact h2
    subst this
    show okArg 0 t = (((-1 : Int) == -1) && mInt t || ((-1 : Int) == t))
    have e1 : ((-1 : Int) == t) = false := by simp; omega
    rw [e1, Bool.eq_iff_iff]
    simp [okArg]; omega
  · exact c1 h1 h2 (by decide)
theorem tab13 (s1 s2 s3 s4 s5 s6 s7 s8 s9 s10 s11 s12 : Sl) : (List.set (List.set (List.set (List.set (List.set (List.set (List.set (List.set (List.set (List.set (List.set (List.set (List.set (List.replicate 13 (Tup.zero [Kd.sl])) 0 (⟨none, 0, 0⟩ : Sl)) 1 s1) 2 s2) 3 s3) 4 s4) 5 s5) 6 s6) 7 s7) 8 s8) 9 s9) 10 s10) 11 s11) 12 s12) = [⟨none, 0, 0⟩, s1, s2, s3, s4, s5, s6, s7, s8, s9, s10, s11, s12] := rfl
theorem tabAt1 (s0 s1 s2 s3 s4 s5 s6 s7 s8 s9 s10 s11 s12 : Sl) : [s0, s1, s2, s3, s4, s5, s6, s7, s8, s9, s10, s11, s12][Int.toNat 1]? = some s1 := rfl
theorem tabAt2 (s0 s1 s2 s3 s4 s5 s6 s7 s8 s9 s10 s11 s12 : Sl) : [s0, s1, s2, s3, s4, s5, s6, s7, s8, s9, s10, s11, s12][Int.toNat 2]? = some s2 := rfl
theorem tabAt3 (s0 s1 s2 s3 s4 s5 s6 s7 s8 s9 s10 s11 s12 : Sl) : [s0, s1, s2, s3, s4, s5, s6, s7, s8, s9, s10, s11, s12][Int.toNat 3]? = some s3 := rfl
theorem tabAt4 (s0 s1 s2 s3 s4 s5 s6 s7 s8 s9 s10 s11 s12 : Sl) : [s0, s1, s2, s3, s4, s5, s6, s7, s8, s9, s10, s11, s12][Int.toNat 4]? = some s4 := rfl
theorem tabAt5 (s0 s1 s2 s3 s4 s5 s6 s7 s8 s9 s10 s11 s12 : Sl) : [s0, s1, s2, s3, s4, s5, s6, s7, s8, s9, s10, s11, s12][Int.toNat 5]? = some s5 := rfl
theorem tabAt6 (s0 s1 s2 s3 s4 s5 s6 s7 s8 s9 s10 s11 s12 : Sl) : [s0, s1, s2, s3, s4, s5, s6, s7, s8, s9, s10, s11, s12][Int.toNat 6]? = some s6 := rfl
theorem tabAt7 (s0 s1 s2 s3 s4 s5 s6 s7 s8 s9 s10 s11 s12 : Sl) : [s0, s1, s2, s3, s4, s5, s6, s7, s8, s9, s10, s11, s12][Int.toNat 7]? = some s7 := rfl
theorem tabAt8 (s0 s1 s2 s3 s4 s5 s6 s7 s8 s9 s10 s11 s12 : Sl) : [s0, s1, s2, s3, s4, s5, s6, s7, s8, s9, s10, s11, s12][Int.toNat 8]? = some s8 := rfl
theorem tabAt9 (s0 s1 s2 s3 s4 s5 s6 s7 s8 s9 s10 s11 s12 : Sl) : [s0, s1, s2, s3, s4, s5, s6, s7, s8, s9, s10, s11, s12][Int.toNat 9]? = some s9 := rfl
theorem tabAt10 (s0 s1 s2 s3 s4 s5 s6 s7 s8 s9 s10 s11 s12 : Sl) : [s0, s1, s2, s3, s4, s5, s6, s7, s8, s9, s10, s11, s12][Int.toNat 10]? = some s10 := rfl
theorem tabAt11 (s0 s1 s2 s3 s4 s5 s6 s7 s8 s9 s10 s11 s12 : Sl) : [s0, s1, s2, s3, s4, s5, s6, s7, s8, s9, s10, s11, s12][Int.toNat 11]? = some s11 := rfl
theorem tabAt12 (s0 s1 s2 s3 s4 s5 s6 s7 s8 s9 s10 s11 s12 : Sl) : [s0, s1, s2, s3, s4, s5, s6, s7, s8, s9, s10, s11, s12][Int.toNat 12]? = some s12 := rfl
theorem c_impl_builtType {a : Int} {b : Sl} {ts : List Int} {R : Hp} {K : Ending → Hp → Prop} (g : Glob R) (ha : 1 ≤ a ∧ a ≤ 12) (ht : ∀ t ∈ ts, 1 ≤ t ∧ t ≤ 10) (hb : RSlice R b kI ts) (h : ∀ R', R.le R' → K (.returned (.int .i64 (mBuilt a ts))) R') : CallsR P0 F_impl_builtType #[.int .i64 a, b.val] R K := go_impl_builtType (by
  unfold vc_impl_builtType
  refine ⟨fun x => by rw [dec_t] at x; omega, fun _ => ⟨fun x => by rw [dec_t] at x; omega, fun _ => ?_⟩⟩
  intro s1 R1 f1 s2 R2 f2 s3 R3 f3 s4 R4 f4 s5 R5 f5 s6 R6 f6 s7 R7 f7 s8 R8 f8 s9 R9 f9 s10 R10 f10 s11 R11 f11 s12 R12 f12
  have L11 := f12.le
  have L10 := f11.le.trans L11
  have L9 := f10.le.trans L10
  have L8 := f9.le.trans L9
  have L7 := f8.le.trans L8
  have L6 := f7.le.trans L7
  have L5 := f6.le.trans L6
  have L4 := f5.le.trans L5
  have L3 := f4.le.trans L4
  have L2 := f3.le.trans L3
  have L1 := f2.le.trans L2
  have L0 := f1.le.trans L1
  rw [tab13]
  have key : ∃ y : Sl, ([⟨none, 0, 0⟩, s1, s2, s3, s4, s5, s6, s7, s8, s9, s10, s11, s12] : List Sl)[Int.toNat a]? = some y ∧ RSlice R12 y kI (wantsI a) := by
    have : a = 1 ∨ a = 2 ∨ a = 3 ∨ a = 4 ∨ a = 5 ∨ a = 6 ∨ a = 7 ∨ a = 8 ∨ a = 9 ∨ a = 10 ∨ a = 11 ∨ a = 12 := by omega
    rcases this with rfl | rfl | rfl | rfl | rfl | rfl | rfl | rfl | rfl | rfl | rfl | rfl
    · exact ⟨s1, tabAt1 ..,  f1.sl.mono L1⟩
    · exact ⟨s2, tabAt2 ..,  f2.sl.mono L2⟩
    · exact ⟨s3, tabAt3 ..,  f3.sl.mono L3⟩
    · exact ⟨s4, tabAt4 ..,  f4.sl.mono L4⟩
    · exact ⟨s5, tabAt5 ..,  f5.sl.mono L5⟩
    · exact ⟨s6, tabAt6 ..,  f6.sl.mono L6⟩
    · exact ⟨s7, tabAt7 ..,  f7.sl.mono L7⟩
    · exact ⟨s8, tabAt8 ..,  f8.sl.mono L8⟩
    · exact ⟨s9, tabAt9 ..,  f9.sl.mono L9⟩
    · exact ⟨s10, tabAt10 ..,  f10.sl.mono L10⟩
    · exact ⟨s11, tabAt11 ..,  f11.sl.mono L11⟩
    · exact ⟨s12, tabAt12 ..,  f12.sl⟩
  obtain ⟨y, e1, hy⟩ := key
  refine ⟨by omega, by show a < 13; omega, y, e1, ?_⟩
  have hlw := wantsI_len a
  have hsm : (mWants a).1.length ≤ 3 := by unfold mWants; (repeat' split) <;> decide
  rw [hy.len, hb.len, hlw]
  refine ⟨fun a1 => ki (h R12 L0) ?_, fun a1 => ?_⟩
  · simp at a1; exact mBuilt_len fun e => a1 (by omega)
  · simp at a1
    have hl : (mWants a).1.length = ts.length := by omega
    refine loop_up ts.length 0 (fun k _ => ∀ j, j < k → argsOk (mWants a).1 ts j = true) (by omega) (fun j x => by omega) fun Inv k R' l' hk hq hn => ⟨fun b1 => ?_, fun b1 => ?_⟩
    · have b1 : k < ts.length := by rw [dec_t] at b1; omega
      have b1' : k < (mWants a).1.length := by omega
      have b1'' : k < (wantsI a).length := by omega
      have eq := argsOk_eq b1' b1
      have hok := okArgI b1'' b1' ha (ht _ (List.getElem_mem b1))
      have next : okArg (mWants a).1[k] ts[k] = true → ∃ n', n' < ts.length - k ∧ Inv n' (IntKind.wrap .i64 ((k : Int) + 1)) R' := fun ho => by
        obtain ⟨n', hn1, hn2⟩ := hn R' b1 (fun j x => by
          rcases Nat.lt_or_ge j k with z | z
          · exact hq j z
          · rw [show j = k by omega, eq]; exact ho)
        exact ⟨n', hn1, by rw [wrap_up (by omega)]; exact hn2⟩
      refine ⟨_, hb.get (L0.trans l') b1, _, hy.get l' b1'', fun b2 => c_impl_integer ⟨_, rfl, fun b3 => next ?_, fun b3 => ⟨_, hy.get l' b1'', fun b4 => next ?_, fun b4 => ki (h R' (L0.trans l')) ?_⟩⟩, fun b2 => ⟨_, hy.get l' b1'', fun b4 => next ?_, fun b4 => ki (h R' (L0.trans l')) ?_⟩⟩
      · rw [hok, b2, b3]; rfl
      · rw [hok, b4, Bool.or_true]
      · exact mBuilt_bad b1 (by rw [eq, hok, b3, b4, Bool.and_false]; rfl) hq
      · rw [hok, b4, Bool.or_true]
      · exact mBuilt_bad b1 (by rw [eq, hok, b2, b4]; rfl) hq
    · have b1 : k = ts.length := by rw [dec_f] at b1; omega
      subst b1
      obtain ⟨sb, g1, g2⟩ := g.bg
      have L := L0.trans l'
      refine ⟨sb, g1.mono L, (mWants a).2, ?_, ki (h R' L) (mBuilt_ok hl hq)⟩
      have := g2.2.2 a.toNat _ (bgL_get ha)
      rw [Int.toNat_of_nonneg (by omega)] at this
      exact this.mono L)
end Go.KE
