/- A checker for the code of a function that writes nothing that was there, and its soundness: part 4. -/
import Derived.Test.YthobhcbaddcbgaaDoorK3
import Derived.Deep.LoopGhost
/- The engine, part 2E: what code leaves as it was. -/
namespace Go.KE
open Go.RowKit (Below)

theorem nodupB_iff : ∀ {l : List Nat}, nodupB l = true → l.Nodup
  | [], _ => List.nodup_nil
  | x :: xs, h => by
    simp only [nodupB] at h
    split at h
    · cases h
    · rename_i hm
      exact List.nodup_cons.2 ⟨memB_false.1 hm, nodupB_iff h⟩
theorem lk_mem {u id : Nat} : ∀ {m : List (Nat × Nat)}, lk m u = some id → (u, id) ∈ m
  | (v, i) :: m, h => by
    simp only [lk] at h
    rcases beq_cases v u with ⟨e, rfl⟩ | ⟨e, _⟩
    · rw [e] at h; cases h; simp
    · rw [e] at h; exact List.mem_cons_of_mem _ (lk_mem h)
theorem bk_mem {u id : Nat} : ∀ {m : List (Nat × Nat)}, bk m id = some u → (u, id) ∈ m
  | (v, i) :: m, h => by
    simp only [bk] at h
    rcases beq_cases i id with ⟨e, rfl⟩ | ⟨e, _⟩
    · rw [e] at h; cases h; simp
    · rw [e] at h; exact List.mem_cons_of_mem _ (bk_mem h)
theorem lk_of {u id : Nat} : ∀ {m : List (Nat × Nat)}, (m.map (·.1)).Nodup → (u, id) ∈ m → lk m u = some id
  | (v, i) :: m, hn, h => by
    simp only [List.map_cons, List.nodup_cons] at hn
    simp only [lk]
    rcases List.mem_cons.1 h with h | h
    · cases h
      simp
    · rcases beq_cases v u with ⟨e, rfl⟩ | ⟨e, _⟩
      · exact absurd (List.mem_map.2 ⟨_, h, rfl⟩) hn.1
      · rw [e]; exact lk_of hn.2 h
theorem bk_of {u id : Nat} : ∀ {m : List (Nat × Nat)}, (m.map (·.2)).Nodup → (u, id) ∈ m → bk m id = some u
  | (v, i) :: m, hn, h => by
    simp only [List.map_cons, List.nodup_cons] at hn
    simp only [bk]
    rcases List.mem_cons.1 h with h | h
    · cases h
      simp
    · rcases beq_cases i id with ⟨e, rfl⟩ | ⟨e, _⟩
      · exact absurd (List.mem_map.2 ⟨_, h, rfl⟩) hn.1
      · rw [e]; exact bk_of hn.2 h
section
variable {S : St}
theorem okOwn_iff {m : List (Nat × Nat)} (h : okOwn S m = true) : ∀ p ∈ m, S.own p.2 = true ∧ S.anew p.2 = true := by
  induction m with
  | nil => intro p hp; simp at hp
  | cons q qs ih =>
    obtain ⟨u, id⟩ := q
    simp only [okOwn] at h
    split at h
    · rename_i e
      rw [Bool.and_eq_true] at e
      intro p hp
      rcases List.mem_cons.1 hp with rfl | hp
      · exact e
      · exact ih h p hp
    · cases h
theorem okFree_iff {hid : Nat → Option HB} {m o : List (Nat × Nat)} (h : okFree hid m o = true) : ∀ p ∈ o, bk m p.2 ≠ none ∨ hid p.2 = none := by
  induction o with
  | nil => intro p hp; simp at hp
  | cons q qs ih =>
    obtain ⟨u, i⟩ := q
    simp only [okFree] at h
    split at h
    · rename_i e
      intro p hp
      rcases List.mem_cons.1 hp with rfl | hp
      · split at e
        · rename_i x hx; exact .inl (by simp [hx])
        · split at e
          · rename_i hn; exact .inr hn
          · cases e
      · exact ih h p hp
    · cases h
end
/-- As it was, or a truth value that has been looked at. -/
def Ref (x x' : SV) : Prop := x' = x ∨ ∃ q : Bool, x = .l (.bool q) ∧ x' = .l (if q = true then .tt else .ff)
theorem Ref.trans {x y z : SV} (h : Ref x y) (h' : Ref y z) : Ref x z := by
  rcases h with rfl | ⟨q, rfl, rfl⟩
  · exact h'
  · rcases h' with rfl | ⟨q', e, rfl⟩
    · exact .inr ⟨q, rfl, rfl⟩
    · cases q <;> cases e
theorem Ref.says {x y : SV} (h : Ref x y) {f : Nat → Bool} (hs : x.saysP f = false) : y.saysP f = false := by
  rcases h with rfl | ⟨q, rfl, rfl⟩
  · exact hs
  · cases q <;> rfl
structure Fr (asg : List Nat) (S S' : St) : Prop where
  own : S'.own = S.own
  anew : S'.anew = S.anew
  env : ∀ t, t ∉ asg → (S.env t).saysP S.anew = false → Ref (S.env t) (S'.env t)
  row : ∀ j, j ∉ asg → S.own j = false → ∀ rt xs, S.hid j = some (.row rt xs) → S'.hid j = S.hid j
  cells : ∀ j, j ∉ asg → S.own j = false → ∀ T cs, S.hid j = some (.cells T cs) → cs.any (LV.saysP S.anew) = false → S'.hid j = S.hid j
theorem Fr.refl (asg : List Nat) (S : St) : Fr asg S S := ⟨rfl, rfl, fun _ _ _ => .inl rfl, fun _ _ _ _ _ _ => rfl, fun _ _ _ _ _ _ _ => rfl⟩
theorem Fr.trans {asg : List Nat} {S S' S'' : St} (h : Fr asg S S') (h' : Fr asg S' S'') : Fr asg S S'' := by
  refine ⟨h'.own.trans h.own, h'.anew.trans h.anew, fun t ht hs => ?_, fun j hj ho rt xs e => ?_, fun j hj ho T cs e hs => ?_⟩
  · have e1 := h.env t ht hs
    exact e1.trans (h'.env t ht (by rw [h.anew]; exact e1.says hs))
  · have e1 := h.row j hj ho rt xs e
    rw [← e1]
    exact h'.row j hj (by rw [h.own]; exact ho) rt xs (by rw [e1]; exact e)
  · have e1 := h.cells j hj ho T cs e hs
    rw [← e1]
    exact h'.cells j hj (by rw [h.own]; exact ho) T cs (by rw [e1]; exact e) (by rw [h.anew]; exact hs)
theorem Fr.mono {asg asg' : List Nat} {S S' : St} (h : Fr asg S S') (hs : ∀ d ∈ asg, d ∈ asg') : Fr asg' S S' :=
  ⟨h.own, h.anew, fun t ht => h.env t fun hm => ht (hs t hm), fun j hj => h.row j fun hm => hj (hs j hm), fun j hj => h.cells j fun hm => hj (hs j hm)⟩
theorem saysP_of {f : Nat → Bool} {x : LV} {id : Nat} (h : x.says id = true) (hf : f id = true) : x.saysP f = true := by
  cases x <;> simp only [LV.says] at h <;> first
    | (cases h; done)
    | (have := Nat.eq_of_beq_eq_true h; subst this; exact hf)
    | (simp only [LV.saysP]
       rw [List.any_eq_true] at h ⊢
       obtain ⟨p, hp, e⟩ := h
       exact ⟨p, hp, by have := Nat.eq_of_beq_eq_true e; rw [this]; exact hf⟩)
theorem saysP_not {f : Nat → Bool} {x : LV} {id : Nat} (h : x.saysP f = false) (hf : f id = true) : x.says id = false := by
  cases e : x.says id with
  | false => rfl
  | true => rw [saysP_of e hf] at h; cases h
theorem saysPL_not {f : Nat → Bool} {cs : List LV} {id : Nat} (h : cs.any (LV.saysP f) = false) (hf : f id = true) : cs.any (LV.says id) = false := by
  rw [List.any_eq_false] at h ⊢
  intro x hx
  rw [saysP_not (by simpa using h x hx) hf]
  simp
theorem saysPS_not {f : Nat → Bool} {x : SV} {id : Nat} (h : x.saysP f = false) (hf : f id = true) : x.says id = false := by
  cases x with
  | l x => exact saysP_not h hf
  | g cs => exact saysPL_not h hf
  | t cs =>
    simp only [SV.saysP, SV.says] at h ⊢
    rw [List.any_eq_false] at h ⊢
    intro p hp
    have := saysPL_not (by simpa using h p hp) hf
    simp [this]
theorem frz_id {id : Nat} {s : Sl} {x : LV} (h : x.says id = false) : x.frz id s = x := by
  cases x <;> first | rfl | (simp only [LV.frz]; first | (simp only [LV.says] at h; rw [h]) | (rw [h]))
theorem frzL_id {id : Nat} {s : Sl} {cs : List LV} (h : cs.any (LV.says id) = false) : cs.map (LV.frz id s) = cs := by
  rw [List.any_eq_false] at h
  conv => rhs; rw [← List.map_id cs]
  exact List.map_congr_left fun x hx => frz_id (by simpa using h x hx)
theorem frzS_id {id : Nat} {s : Sl} {x : SV} (h : x.says id = false) : x.frz id s = x := by
  cases x with
  | l x => simp only [SV.frz]; rw [frz_id h]
  | g cs => simp only [SV.frz]; rw [frzL_id h]
  | t cs =>
    simp only [SV.frz]
    simp only [SV.says] at h
    rw [List.any_eq_false] at h
    congr 1
    conv => rhs; rw [← List.map_id cs]
    exact List.map_congr_left fun p hp => by
      have := frzL_id (s := s) (by simpa using h p hp)
      rw [this]
      rfl
theorem Fr.put {asg : List Nat} (S : St) {d : Option Nat} (v : SV) (hd : ∀ m, d = some m → m ∈ asg) : Fr asg S (S.put d v) := by
  cases d with
  | none => exact Fr.refl asg S
  | some m => exact ⟨rfl, rfl, fun t ht _ => .inl (by rw [St.put_env, if_neg (fun e => ht (by rw [e]; exact hd m rfl))]), fun _ _ _ _ _ _ => rfl, fun _ _ _ _ _ _ _ => rfl⟩
theorem Fr.setHid {asg : List Nat} (S : St) {id : Nat} (h : Option HB) (hid : S.own id = true ∨ id ∈ asg) : Fr asg S (S.setHid id h) := by
  have key : ∀ j, j ∉ asg → S.own j = false → (S.setHid id h).hid j = S.hid j := fun j hj ho => by
    rw [St.setHid_hid, if_neg]
    rintro rfl
    rcases hid with h | h
    · rw [ho] at h; cases h
    · exact hj h
  exact ⟨rfl, rfl, fun _ _ _ => .inl rfl, fun j hj ho _ _ _ => key j hj ho, fun j hj ho _ _ _ _ => key j hj ho⟩
theorem Fr.behind {asg : List Nat} (S : St) {d : Option Nat} (v : SV) (h : Option HB) (hd : ∀ m, d = some m → m ∈ asg) : Fr asg S (S.behind d v h) := by
  cases h with
  | none => exact Fr.put S v hd
  | some h => cases d with
    | none => exact Fr.refl asg S
    | some m => exact (Fr.setHid S (some h) (.inr (hd m rfl))).trans (Fr.put _ v hd)
theorem Fr.purge {asg : List Nat} (S : St) {id : Nat} (h : S.anew id = true) : Fr asg S (S.purge id) := by
  refine ⟨rfl, rfl, fun t _ hs => ?_, fun j _ _ rt xs e => ?_, fun j _ _ T cs e hs => ?_⟩
  · refine .inl ?_
    simp only [St.purge]
    rw [saysPS_not hs h]
  · simp only [St.purge, e]
  · simp only [St.purge, e]
    congr 2
    conv => rhs; rw [← List.map_id cs]
    have := saysPL_not hs h
    rw [List.any_eq_false] at this
    exact List.map_congr_left fun x hx => by
      unfold LV.purge
      have e := this x hx
      rw [Bool.not_eq_true] at e
      rw [e]
      rfl
theorem Fr.frz {asg : List Nat} (S : St) {id : Nat} (s : Sl) (h : S.anew id = true) (ho' : S.own id = true) : Fr asg S (S.frz id s) := by
  refine ⟨rfl, rfl, fun t _ hs => .inl (frzS_id (saysPS_not hs h)), fun j _ ho rt xs e => ?_, fun j _ ho T cs e hs => ?_⟩
  · simp only [St.frz]
    rcases beq_cases j id with ⟨_, rfl⟩ | ⟨e1, _⟩
    · rw [ho] at ho'; cases ho'
    · rw [e1]; simp only [e]
  · simp only [St.frz]
    rcases beq_cases j id with ⟨_, rfl⟩ | ⟨e1, _⟩
    · rw [ho] at ho'; cases ho'
    · rw [e1]; simp only [e]
      rw [frzL_id (saysPL_not hs h)]
theorem Fr.lit {asg : List Nat} (S : St) {t : Nat} (x : LV) (hd : t ∈ asg) : Fr asg S (S.lit t x) := by
  refine ⟨rfl, rfl, fun u hu _ => ?_, fun _ _ _ _ _ _ => rfl, fun _ _ _ _ _ _ _ => rfl⟩
  refine .inl ?_
  simp only [St.lit]
  rcases beq_cases u t with ⟨_, rfl⟩ | ⟨e1, _⟩
  · exact absurd hd hu
  · rw [e1]

theorem Fr.litB {asg : List Nat} (S : St) {t : Nat} {q : Bool} (h : S.env t = .l (.bool q)) : Fr asg S (S.lit t (if q = true then .tt else .ff)) := by
  refine ⟨rfl, rfl, fun u _ _ => ?_, fun _ _ _ _ _ _ => rfl, fun _ _ _ _ _ _ _ => rfl⟩
  simp only [St.lit]
  rcases beq_cases u t with ⟨e, rfl⟩ | ⟨e1, _⟩
  · rw [e]; exact .inr ⟨q, h, rfl⟩
  · rw [e1]; exact .inl rfl
section
variable {S : St} {R : Hp}
def With (asg : List Nat) (S : St) (R : Hp) (K : St → Hp → Prop) : St → Hp → Prop := fun S' R' => K S' R' ∧ Fr asg S S' ∧ R.le R'
theorem evP_with {cx : Cx} {o : Oper} {asg : List Nat} (hd : ∀ m, o.dst = some m → m ∈ asg) {K : St → Hp → Prop} (h : evP cx o S.env S.hid R fun v h => K (S.behind o.dst v h) R) : evP cx o S.env S.hid R fun v h => With asg S R K (S.behind o.dst v h) R := by
  obtain ⟨sv, hbo, h1, h2, h3⟩ := evP_elim h
  refine h3 _ _ _ _ ⟨Hp.le.refl R, fun _ _ => rfl, fun _ _ _ _ => rfl⟩ (fun e d hd => ?_) ⟨h1, Fr.behind S sv hbo hd, Hp.le.refl R⟩
  obtain ⟨d', e1, e2⟩ := h2 e
  rw [hd] at e1
  cases e1
  exact e2
theorem okCells_mono : ∀ {cs : List LV} {p q : Prop}, okCells cs p → (p → q) → okCells cs q
  | [], p, q, h, hk => hk h
  | c :: cs, p, q, h, hk => by
    cases c <;> simp only [okCells] at h ⊢ <;> first | exact h.elim | exact okCells_mono h hk
theorem writeAt_with {asg : List Nat} {x y : SV} {ti : TI} {K : St → Prop} (h : writeAt S x ti y K) : writeAt S x ti y fun S' => K S' ∧ Fr asg S S' := by
  unfold writeAt at h ⊢
  split at h
  · exact h.elim
  · unfold sized at h ⊢
    simp only
    split at h
    · rename_i e
      refine okCells_mono h fun h => ?_
      clear e
      split at h
      · split at h
        · rename_i ho
          split at h
          · split at h
            · exact ⟨h, Fr.setHid S _ (.inl ho)⟩
            · exact h.elim
          · exact h.elim
        · exact h.elim
      · split at h
        · rename_i ho
          split at h
          · split at h
            · split at h
              · obtain ⟨z, hz, h⟩ := h
                refine ⟨z, hz, ?_⟩
                split at h
                · exact ⟨h, Fr.setHid S _ (.inl ho)⟩
                · exact h.elim
              · exact h.elim
            · exact h.elim
          · exact h.elim
        · exact h.elim
      · exact h.elim
    · exact h.elim
theorem typeT_mono {cx : Cx} {t : TypeId} {K K' : TI → Prop} (h : typeT cx t K) (hk : ∀ ti, K ti → K' ti) : typeT cx t K' := by
  obtain ⟨ti, e, h⟩ := typeT_iff h
  exact typeT_intro e (hk _ h)
theorem elemOfT_mono {cx : Cx} {t : TypeId} {K K' : TypeId → TI → Prop} (h : elemOfT cx t K) (hk : ∀ e ti, K e ti → K' e ti) : elemOfT cx t K' := by
  obtain ⟨ti, e, te, h1, h2, h3, h⟩ := elemOfT_iff h
  exact elemOfT_intro h1 h2 h3 (hk _ _ h)
theorem srcOf_mono {hid : Nat → Option HB} {R : Hp} {x : SV} {te : TI} {K K' : List (Tup te.ks) → Prop} (h : srcOf hid R x te K) (hk : ∀ ys, K ys → K' ys) : srcOf hid R x te K' := by
  obtain ⟨ys, h1, h2⟩ := srcOf_elim h
  exact h2 _ _ _ (Hp.le.refl R) (fun _ _ => rfl) (hk _ h1)
theorem dstOf_mono {te : TI} {x : SV} {K K' : Nat → TypeId → List (Tup te.ks) → Prop} (h : dstOf S x te K) (hk : ∀ id T xs, S.own id = true → K id T xs → K' id T xs) : dstOf S x te K' := by
  unfold dstOf at h ⊢
  split at h
  · rename_i id
    skip
    split at h
    · rename_i ho
      split at h
      · split at h
        · rename_i hks
          rw [dif_pos hks]
          exact hk _ _ _ ho h
        · exact h.elim
      · exact h.elim
    · exact h.elim
  · exact h.elim
theorem evAppend_with {cx : Cx} {asg : List Nat} {t u : TypeId} {x y : SV} {K : SV → St → Hp → Prop} (h : evAppend cx S R t u x y K) : evAppend cx S R t u x y fun v S' R' => K v S' R' ∧ Fr asg S S' ∧ R.le R' := by
  unfold evAppend at h ⊢
  refine elemOfT_mono h fun e te h => dstOf_mono h fun id T xs ho h => ?_
  split at h
  · rename_i hc
    simp only
    simp only [Bool.and_eq_true] at hc
    exact srcOf_mono h fun ys h => ⟨h.1, h.2, (Fr.purge S hc.1.1.1).trans (Fr.setHid _ _ (.inl ho)), Hp.le.refl R⟩
  · exact h.elim
theorem evCopy_with {cx : Cx} {asg : List Nat} {t : TypeId} {x y : SV} {K : SV → St → Hp → Prop} (h : evCopy cx S R t x y K) : evCopy cx S R t x y fun v S' R' => K v S' R' ∧ Fr asg S S' ∧ R.le R' := by
  unfold evCopy at h ⊢
  refine elemOfT_mono h fun e te h => ?_
  split at h
  · exact dstOf_mono h fun id T xs ho h => srcOf_mono h fun ys h => ⟨h.1, h.2.1, h.2.2, Fr.setHid S _ (.inl ho), Hp.le.refl R⟩
  · exact dstOf_mono h fun id T xs ho h => srcOf_mono h fun ys h => ⟨h, Fr.setHid S _ (.inl ho), Hp.le.refl R⟩
theorem evTrunc_with {asg : List Nat} {id : Nat} {hi : Option SV} {K : SV → St → Prop} (h : evTrunc S id hi K) : evTrunc S id hi fun v S' => K v S' ∧ Fr asg S S' := by
  unfold evTrunc at h ⊢
  split at h
  · rename_i hc
    simp only
    rw [Bool.and_eq_true] at hc
    split at h
    · obtain ⟨m, h1, h2⟩ := optInt_elim h
      exact h2 _ ⟨h1.1, h1.2.1, h1.2.2, (Fr.purge S hc.2).trans (Fr.setHid _ _ (.inl hc.1))⟩
    · exact h.elim
  · exact h.elim
theorem frz1_with {asg : List Nat} {id : Nat} {K : St → Hp → Prop} (h : frz1 S R id K) : frz1 S R id (With asg S R K) := by
  unfold frz1 at h ⊢
  split at h
  · rename_i hc
    skip
    rw [Bool.and_eq_true] at hc
    split at h
    · exact fun s R' hf => ⟨h s R' hf, Fr.frz S s hc.2 hc.1, hf.le⟩
    · exact h.elim
  · exact h.elim
theorem frz1_mono {id : Nat} {K K' : St → Hp → Prop} (h : frz1 S R id K) (hk : ∀ S' R', K S' R' → K' S' R') : frz1 S R id K' := by
  unfold frz1 at h ⊢
  split at h
  · skip
    split at h
    · exact fun s R' hf => hk _ _ (h s R' hf)
    · exact h.elim
  · exact h.elim
theorem frzOps_with {asg : List Nat} : ∀ (m : Nat) (xs : List Operand) {S : St} {R : Hp} {K : St → Hp → Prop}, frzOps m xs S R K → frzOps m xs S R (With asg S R K)
  | 0, xs, S, R, K, h => ⟨h, Fr.refl asg S, Hp.le.refl R⟩
  | m + 1, xs, S, R, K, h => by
    simp only [frzOps] at h ⊢
    split at h
    · exact ⟨h, Fr.refl asg S, Hp.le.refl R⟩
    · refine frz1_mono (frz1_with (asg := asg) h) fun S1 R1 ⟨h1, f1, l1⟩ => ?_
      have := frzOps_with (asg := asg) m xs h1
      have mono : ∀ (m : Nat) {S : St} {R : Hp} {K K' : St → Hp → Prop}, frzOps m xs S R K → (∀ S' R', K S' R' → K' S' R') → frzOps m xs S R K' := by
        intro m
        induction m with
        | zero => intro S R K K' h hk; exact hk _ _ h
        | succ m ih =>
          intro S R K K' h hk
          simp only [frzOps] at h ⊢
          split at h
          · exact hk _ _ h
          · exact frz1_mono h fun S1 R1 h => ih h hk
      exact mono m this fun S2 R2 ⟨h2, f2, l2⟩ => ⟨h2, f1.trans f2, l1.trans l2⟩
theorem frzOps_mono {xs : List Operand} : ∀ (m : Nat) {S : St} {R : Hp} {K K' : St → Hp → Prop}, frzOps m xs S R K → (∀ S' R', K S' R' → K' S' R') → frzOps m xs S R K'
  | 0, S, R, K, K', h, hk => hk _ _ h
  | m + 1, S, R, K, K', h, hk => by
    simp only [frzOps] at h ⊢
    split at h
    · exact hk _ _ h
    · exact frz1_mono h fun S1 R1 h => frzOps_mono m h hk
theorem call_with {cx : Cx} {o : Oper} {f : FuncId} {vs : Array Value} {asg : List Nat} (hd : ∀ m, o.dst = some m → m ∈ asg) {K : St → Hp → Prop} (h : CallsR cx.P f vs R fun e R' => retK cx.tbl (cx.rts f) e fun v => K (S.put o.dst v) R') :
    CallsR cx.P f vs R fun e R' => retK cx.tbl (cx.rts f) e fun v => With asg S R K (S.put o.dst v) R' :=
  h.mono fun e R' hl hk => retK_mono hk fun v hv => ⟨hv, Fr.put S v hd, hl⟩
theorem hit_says {m : List (Nat × Nat)} {f : Nat → Bool} (hf : ∀ id, f id = true → bk m id ≠ none) {x : LV} {p : Nat → Bool} (hp : ∀ id, bk m id ≠ none → p id = true) (h : x.saysP p = false) : x.hit f (handed m) = false := by
  have h1 : ∀ id, p id = false → f id = false := fun id e => by
    cases e1 : f id with
    | false => rfl
    | true => rw [hp id (hf id e1)] at e; cases e
  have h2 : ∀ id, p id = false → handed m id = false := fun id e => by
    unfold handed
    split
    · rename_i u eu
      rw [hp id (by rw [eu]; simp)] at e; cases e
    · rfl
  cases x <;> first
    | rfl
    | exact h1 _ h
    | exact h2 _ h
    | skip
  simp only [LV.saysP, LV.hit] at h ⊢
  rw [List.any_eq_false] at h ⊢
  intro y hy
  rw [h1 _ (by simpa using h y hy)]
  simp
theorem gone_bk {blks : List (Nat × TypeId × Nat)} {hid : Nat → Option HB} {m o : List (Nat × Nat)} {hout : Nat → Option HB} {id : Nat} (h : gone blks hid m o hout id = true) : bk m id ≠ none := by
  unfold gone at h
  split at h
  · rename_i u e; rw [e]; simp
  · cases h
theorem hitS_says {m : List (Nat × Nat)} {f : Nat → Bool} (hf : ∀ id, f id = true → bk m id ≠ none) {x : SV} {p : Nat → Bool} (hp : ∀ id, bk m id ≠ none → p id = true) (h : x.saysP p = false) : x.hit f (handed m) = false := by
  have hL : ∀ {cs : List LV}, cs.any (LV.saysP p) = false → cs.any (LV.hit f (handed m)) = false := fun {cs} h => by
    rw [List.any_eq_false] at h ⊢
    intro y hy
    rw [hit_says hf hp (by simpa using h y hy)]
    simp
  cases x with
  | l x => exact hit_says hf hp h
  | g cs => exact hL h
  | t cs =>
    simp only [SV.saysP, SV.hit] at h ⊢
    rw [List.any_eq_false] at h ⊢
    intro y hy
    rw [hL (by simpa using h y hy)]
    simp
theorem Fr.afterX {asg : List Nat} {S : St} {blks : List (Nat × TypeId × Nat)} {m o : List (Nat × Nat)} {hout : Nat → Option HB} (hown : okOwn S m = true) (hfree : okFree S.hid m o = true) : Fr asg S (afterX blks S m o hout) := by
  have hp : ∀ id, bk m id ≠ none → S.own id = true ∧ S.anew id = true := fun id h => by
    cases e : bk m id with
    | none => exact absurd e h
    | some u => exact okOwn_iff hown _ (bk_mem e)
  have hno : ∀ j, S.own j = false → S.hid j ≠ none → bk o j = none ∧ bk m j = none := fun j ho hh => by
    have hm : bk m j = none := by
      cases e : bk m j with
      | none => rfl
      | some u => have := (hp j (by rw [e]; simp)).1; rw [ho] at this; cases this
    refine ⟨?_, hm⟩
    cases e : bk o j with
    | none => rfl
    | some u =>
      rcases okFree_iff hfree _ (bk_mem e) with h | h
      · exact absurd hm h
      · exact absurd h hh
  refine ⟨rfl, rfl, fun t _ hs => .inl ?_, fun j _ ho rt xs e => ?_, fun j _ ho T cs e hs => ?_⟩
  · simp only [KE.afterX]
    rw [hitS_says (fun id h => gone_bk h) (fun id h => (hp id h).2) hs]
  · obtain ⟨h1, h2⟩ := hno j ho (by rw [e]; simp)
    simp only [KE.afterX, h1, h2, e]
  · obtain ⟨h1, h2⟩ := hno j ho (by rw [e]; simp)
    simp only [KE.afterX, h1, h2, e]
    congr 2
    conv => rhs; rw [← List.map_id cs]
    rw [List.any_eq_false] at hs
    exact List.map_congr_left fun x hx => by
      rw [hit_says (fun id h => gone_bk h) (fun id h => (hp id h).2) (by simpa using hs x hx)]
      rfl
theorem resX_mono {tbl : TypeId → Option TI} {o : List (Nat × Nat)} {hout : Nat → Option HB} : ∀ {i : Nat} {xs : List XR} {K K' : List (Option Value) → List (Bool × List LV) → Prop}, resX tbl o hout i xs K → (∀ vs cs, K vs cs → K' vs cs) → resX tbl o hout i xs K'
  | _, [], K, K', h, hk => hk _ _ h
  | i, .pure t :: xs, K, K', h, hk => by
    simp only [resX] at h ⊢
    split at h
    · split at h
      · obtain ⟨x, h⟩ := h
        exact ⟨x, resX_mono h fun vs cs => hk _ _⟩
      · split at h
        · obtain ⟨x, h⟩ := h
          exact ⟨x, resX_mono h fun vs cs => hk _ _⟩
        · exact h.elim
    · exact h.elim
  | i, .row _ :: xs, K, K', h, hk => by
    simp only [resX] at h ⊢
    split at h
    · exact resX_mono h fun vs cs => hk _ _
    · exact h.elim
  | i, .adr _ _ :: xs, K, K', h, hk => by
    simp only [resX] at h ⊢
    split at h
    · exact resX_mono h fun vs cs => hk _ _
    · exact h.elim
theorem evX_with {cx : Cx} {f : FuncId} {sig : XS} {fops : List Operand} {args : St → Option (List SV)} {dst : Option Nat} {asg : List Nat} (hd : ∀ m, dst = some m → m ∈ asg) {K K' : St → Hp → Prop} (h : evX cx f sig fops args dst S R K) (hk : ∀ S' R', With asg S R K S' R' → K' S' R') : evX cx f sig fops args dst S R K' := by
  unfold evX at h ⊢
  refine frzOps_mono _ (frzOps_with (asg := asg) _ _ h) fun S1 R1 ⟨h, f1, l1⟩ => ?_
  dsimp only at h ⊢
  cases e0 : args S1 with
  | none => rw [e0] at h; exact h.elim
  | some svs =>
    rw [e0] at h
    dsimp only at h ⊢
    cases e1 : argRoots 0 sig.args svs with
    | none => rw [e1] at h; exact h.elim
    | some m0 =>
      rw [e1] at h
      dsimp only at h ⊢
      cases e2 : asKids S1.hid sig.kids m0 with
      | none => rw [e2] at h; exact h.elim
      | some m1 =>
        rw [e2] at h
        dsimp only at h ⊢
        cases e3 : canonX (asRows S1.hid sig.ins m1) S1.hid (argEnv PB svs) sig.inB sig.ins with
        | none => rw [e3] at h; exact h.elim
        | some d =>
          rw [e3] at h
          dsimp only at h ⊢
          generalize hc : (okOwn S1 (asRows S1.hid sig.ins m1) && okNames (outM sig (asRows S1.hid sig.ins m1) dst) && okFree S1.hid (asRows S1.hid sig.ins m1) (outM sig (asRows S1.hid sig.ins m1) dst) && okArgsX sig.ins 0 sig.args) = q at h ⊢
          cases q with
          | false => exact h.elim
          | true =>
            simp only [Bool.and_eq_true] at hc
            dsimp only at h ⊢
            refine h.mono fun rs d' R' hle hr => ?_
            generalize okFx cx.fx sig.inB S1.hid (asRows S1.hid sig.ins m1) (outM sig (asRows S1.hid sig.ins m1) dst) (objX sig.outB sig.outs d') = q at hr ⊢
            cases q with
            | false => exact hr.elim
            | true => exact resX_mono hr fun vs cs hK => ⟨hK.1, hk _ _ ⟨hK.2, (f1.trans (Fr.afterX hc.1.1.1 hc.1.2)).trans (Fr.put _ _ hd), l1.trans hle⟩⟩
theorem evUpdate_with {cx : Cx} {t : TypeId} {m k v : SV} {asg : List Nat} {K K' : St → Prop} (h : evUpdate cx S t m k v K) (hk : ∀ S', K S' → Fr asg S S' → K' S') : evUpdate cx S t m k v K' := by
  unfold evUpdate at h ⊢
  split at h
  · obtain ⟨kk, kv, h, h2⟩ := mapOfT_elim h
    refine h2 _ ?_
    obtain ⟨y, dk, hi, hdk, h⟩ := denT_iff h
    obtain ⟨z, dv, hv, hdv, h⟩ := denT_iff h
    refine denT_intro hi hdk (denT_intro hv hdv ?_)
    split at h
    · rename_i ho
      obtain ⟨xs, hid, h⟩ := mapIn_iff h
      exact mapIn_intro hid (hk _ h (Fr.setHid S _ (.inl ho)))
    · exact h.elim
  · exact h.elim
theorem ev1_with {cx : Cx} {o : Oper} {asg : List Nat} (hd : ∀ m, o.dst = some m → m ∈ asg) {K K' : St → Hp → Prop} {Kp Kp' : List PanicEntry → Hp → Prop} (h : ev1 cx o S R K Kp) (hk : ∀ S' R', With asg S R K S' R' → K' S' R') (hp : ∀ ch R', Kp ch R' → R.le R' → Kp' ch R') : ev1 cx o S R K' Kp' := by
  have evw : (evP cx o S.env S.hid R fun v h => K (S.behind o.dst v h) R) → evP cx o S.env S.hid R fun v h => K' (S.behind o.dst v h) R := fun h => by
    obtain ⟨sv, hbo, g1, g2, g3⟩ := evP_elim (evP_with hd h)
    refine g3 _ _ _ _ ⟨Hp.le.refl R, fun _ _ => rfl, fun _ _ _ _ => rfl⟩ (fun e d hd => ?_) (hk _ _ g1)
    obtain ⟨d', e1, e2⟩ := g2 e
    rw [hd] at e1
    cases e1
    exact e2
  unfold ev1 at h ⊢
  split at h
  · exact frzOps_mono _ (frzOps_with (asg := asg) _ _ h) fun S' R' ⟨h1, f1, l1⟩ => by
      obtain ⟨sv, hbo, g1, g2, g3⟩ := evP_elim (evP_with hd h1)
      refine g3 _ _ _ _ ⟨Hp.le.refl R', fun _ _ => rfl, fun _ _ _ _ => rfl⟩ (fun e d hd => ?_) (hk _ _ ⟨g1.1, f1.trans g1.2.1, l1.trans g1.2.2⟩)
      obtain ⟨d', e1, e2⟩ := g2 e
      rw [hd] at e1
      cases e1
      exact e2
  · have key : ∀ {S' : St} {R' : Hp} {p x : SV} {t : TypeId}, Fr asg S S' → R.le R' → (typeT cx t fun ti => writeAt S' p ti x fun S2 => K (S2.put o.dst (.l .no)) R') → typeT cx t fun ti => writeAt S' p ti x fun S2 => K' (S2.put o.dst (.l .no)) R' := fun {S' R' p x t} f1 l1 h =>
      typeT_mono h fun ti h => by
        have := writeAt_with (asg := asg) h
        have mono : ∀ {K K' : St → Prop}, writeAt S' p ti x K → (∀ S, K S → K' S) → writeAt S' p ti x K' := fun {K K'} h hk => by
          unfold writeAt at h ⊢
          split at h
          · exact h.elim
          · unfold sized at h ⊢
            simp only
            split at h
            · refine okCells_mono h fun h => ?_
              split at h
              · split at h
                · split at h
                  · split at h
                    · exact hk _ h
                    · exact h.elim
                  · exact h.elim
                · exact h.elim
              · split at h
                · split at h
                  · split at h
                    · split at h
                      · obtain ⟨z, hz, h⟩ := h
                        refine ⟨z, hz, ?_⟩
                        split at h
                        · exact hk _ h
                        · exact h.elim
                      · exact h.elim
                    · exact h.elim
                  · exact h.elim
                · exact h.elim
              · exact h.elim
            · exact h.elim
        exact mono this fun S2 ⟨h2, f2⟩ => hk _ _ ⟨h2, (f1.trans f2).trans (Fr.put _ _ hd), l1⟩
    split at h
    · exact frzOps_mono _ (frzOps_with (asg := asg) _ _ h) fun S' R' ⟨h1, f1, l1⟩ => key f1 l1 h1
    · exact key (Fr.refl asg S) (Hp.le.refl R) h
  · split at h
    · refine elemOfT_mono h fun e te h => ?_
      have := evTrunc_with (asg := asg) h
      unfold evTrunc at this ⊢
      split at this
      · simp only
        split at this
        · obtain ⟨m, h1, h2⟩ := optInt_elim this
          exact h2 _ ⟨h1.1, h1.2.1, hk _ _ ⟨h1.2.2.1, h1.2.2.2.trans (Fr.put _ _ hd), Hp.le.refl R⟩⟩
        · exact this.elim
      · exact this.elim
    · exact evw h
  · exact evUpdate_with h fun S' hs f => hk _ _ ⟨hs, f.trans (Fr.put _ _ hd), Hp.le.refl R⟩
  · split at h
    · exact hp _ _ h (Hp.le.refl R)
    · exact h.elim
  · split at h
    · split at h
      · split at h
        · have := evAppend_with (asg := asg) h
          unfold evAppend at this ⊢
          refine elemOfT_mono this fun e te h => dstOf_mono h fun id T xs ho h => ?_
          split at h
          · simp only
            exact srcOf_mono h fun ys h => ⟨h.1, hk _ _ ⟨h.2.1, h.2.2.1.trans (Fr.put _ _ hd), h.2.2.2⟩⟩
          · exact h.elim
        · exact evw h
      · have := evCopy_with (asg := asg) h
        unfold evCopy at this ⊢
        refine elemOfT_mono this fun e te h => ?_
        split at h
        · exact dstOf_mono h fun id T xs ho h => srcOf_mono h fun ys h => ⟨h.1, h.2.1, hk _ _ ⟨h.2.2.1, h.2.2.2.1.trans (Fr.put _ _ hd), h.2.2.2.2⟩⟩
        · exact dstOf_mono h fun id T xs ho h => srcOf_mono h fun ys h => hk _ _ ⟨h.1, h.2.1.trans (Fr.put _ _ hd), h.2.2⟩
      · exact evw h
    · split at h
      · exact h.elim
      · split at h
        · exact evX_with hd h hk
        · split at h
          · refine frzOps_mono _ (frzOps_with (asg := asg) _ _ h) fun S' R' ⟨h1, f1, l1⟩ => ?_
            dsimp only at h1
            split at h1
            · exact (call_with (asg := asg) hd h1).mono fun e R2 _ hr => retK_mono hr fun v hv => hk _ _ ⟨hv.1, f1.trans hv.2.1, l1.trans hv.2.2⟩
            · exact h1.elim
          · exact h.elim
    · exact h.elim
  · exact evw h
end
end Go.KE

/- The engine, part 2F: a region as a whole. -/
namespace Go.KE
open Go.RowKit (Below)

section
variable {S : St} {R : Hp}
theorem ev1d_with {cx : Cx} {o : Oper} {asg : List Nat} (hd : ∀ m, o.dst = some m → m ∈ asg) {K K' : St → Hp → Prop} {Kp Kp' : List PanicEntry → Hp → Prop} (h : ev1d cx o S R K Kp) (hk : ∀ S' R', With asg S R K S' R' → K' S' R') (hp : ∀ ch R', Kp ch R' → R.le R' → Kp' ch R') : ev1d cx o S R K' Kp' := by
  unfold ev1d at h ⊢
  split at h
  · exact ev1_with hd h hk hp
  · split at h
    · split at h
      · split at h
        · exact (call_with hd h).mono fun e R2 _ h => retK_mono h fun v hv => hk _ _ hv
        · exact h.elim
      · exact h.elim
    · exact h.elim
  · obtain ⟨sv, hbo, g1, g2, g3⟩ := evP_elim (evP_with hd h)
    refine g3 _ _ _ _ ⟨Hp.le.refl R, fun _ _ => rfl, fun _ _ _ _ => rfl⟩ (fun e d hd => ?_) (hk _ _ g1)
    obtain ⟨d', e1, e2⟩ := g2 e
    rw [hd] at e1
    cases e1
    exact e2
theorem splitAt_with {gts : List Nat} {d : Option Nat} {asg : List Nat} (hd : ∀ m, d = some m → m ∈ asg) {F F' : St → Prop} (h : splitAt gts d S F) (hk : ∀ S', F S' → Fr asg S S' → F' S') : splitAt gts d S F' := by
  unfold splitAt at h ⊢
  split at h
  · exact hk _ h (Fr.refl asg S)
  · rename_i m
    split at h
    · exact hk _ h (Fr.refl asg S)
    · split at h
      · exact ⟨fun q => hk _ (h.1 q) (Fr.lit S _ (hd m rfl)), fun q => hk _ (h.2 q) (Fr.lit S _ (hd m rfl))⟩
      · exact hk _ h (Fr.refl asg S)
theorem evOp_with {cx : Cx} {ops : List Oper} {gts : List Nat} {draw : Bool} {o : Oper} {asg : List Nat} (hd : ∀ m, o.dst = some m → m ∈ asg) {K K' : St → Hp → Prop} {Kp Kp' : List PanicEntry → Hp → Prop} (h : evOp cx ops gts draw o S R K Kp)
    (hk : ∀ S' R', With asg S R K S' R' → K' S' R') (hp : ∀ ch R', Kp ch R' → R.le R' → Kp' ch R') : evOp cx ops gts draw o S R K' Kp' := by
  have run : (match draw with | true => ev1d cx o | false => ev1 cx o) S R (fun S' R' => splitAt gts o.dst S' fun S' => K S' R') Kp → (match draw with | true => ev1d cx o | false => ev1 cx o) S R (fun S' R' => splitAt gts o.dst S' fun S' => K' S' R') Kp' := fun h => by
    cases draw with
    | true => exact ev1d_with hd h (fun S' R' ⟨h1, f1, l1⟩ => splitAt_with hd h1 fun S2 h2 f2 => hk _ _ ⟨h2, f1.trans f2, l1⟩) hp
    | false => exact ev1_with hd h (fun S' R' ⟨h1, f1, l1⟩ => splitAt_with hd h1 fun S2 h2 f2 => hk _ _ ⟨h2, f1.trans f2, l1⟩) hp
  have no : K (S.put o.dst (.l .und)) R → K' (S.put o.dst (.l .und)) R := fun h => hk _ _ ⟨h, Fr.put S _ hd, Hp.le.refl R⟩
  unfold evOp at h ⊢
  split at h
  · exact h.elim
  · split at h
    · exact run h
    · split at h
      · exact h.elim
      · split at h
        · split at h
          · exact run h
          · exact no h
        · split at h
          · exact run h
          · exact no h
        · exact no h
        · exact h.elim
theorem evOps_with {cx : Cx} {ops : List Oper} {gts : List Nat} {draw : Bool} {asg : List Nat} (hd : ∀ (i : Nat) o, ops[i]? = some o → ∀ m, o.dst = some m → m ∈ asg) : ∀ (l : List Nat) {S : St} {R : Hp} {K K' : St → Hp → Prop} {Kp Kp' : List PanicEntry → Hp → Prop}, evOps cx ops gts draw l S R K Kp →
    (∀ S' R', With asg S R K S' R' → K' S' R') → (∀ ch R', Kp ch R' → R.le R' → Kp' ch R') → evOps cx ops gts draw l S R K' Kp'
  | [], S, R, K, K', Kp, Kp', h, hk, hp => hk _ _ ⟨h, Fr.refl asg S, Hp.le.refl R⟩
  | i :: rest, S, R, K, K', Kp, Kp', h, hk, hp => by
    simp only [evOps] at h ⊢
    split at h
    · exact h.elim
    · rename_i o ho
      -- the panics' continuation must know how far memory has grown: taken at each operation
      refine evOp_with (hd i o ho) h (fun S1 R1 ⟨h1, f1, l1⟩ => ?_) hp
      exact evOps_with hd rest h1 (fun S2 R2 ⟨h2, f2, l2⟩ => hk _ _ ⟨h2, f1.trans f2, l1.trans l2⟩) fun ch R2 h2 l2 => hp ch R2 h2 (l1.trans l2)
end
section
variable {w0 : World} {M0 : Mod} {R0 : Hp} {n : Nat} {dfs : List Deferred} {bs : Bs} {S : St} {R : Hp} {a : Act} {w : World}
/-- What code ends with. -/
def QK (w0 : World) (M0 : Mod) (R0 : Hp) (n : Nat) (dfs : List Deferred) (asg : List Nat) (S : St) (R : Hp) (K : Exit → St → Hp → Prop) : Exit → Act → World → Prop
  | .panic ch, a, w => ∃ bs S1 R1 S2, Inv w0 M0 R0 n dfs bs S1 R1 a w ∧ K (.panic ch) S2 R1 ∧ R.le R1
  | .outgrown, _, _ => False
  | e, a, w => ∃ bs S1 R1, Inv w0 M0 R0 n dfs bs S1 R1 a w ∧ With asg S R (K e) S1 R1
theorem region_sound {cx : Cx} (hm : cx.P.follows .mixedOrders = true) (hT : TblOk cx.P cx.tbl) (HX : XSnd cx w0 M0 R0 n dfs) (hcn : cx.n = n) (I : Inv w0 M0 R0 n dfs bs S R a w) {id : Nat} {ops : Array Oper} {draw : Bool} {K : Exit → St → Hp → Prop} (h : evC cx (.region id ops draw) K S R) :
    (Code.region id ops draw).wp cx.P (QK w0 M0 R0 n dfs (assigned (.region id ops draw)) S R K) a w := by
  have hasg : ∀ (i : Nat) o, ops.toList[i]? = some o → ∀ m, o.dst = some m → m ∈ assigned (.region id ops draw) := fun i o ho m hm => by
    simp only [assigned, List.mem_filterMap]
    exact ⟨o, List.mem_of_getElem? ho, hm⟩
  cases draw with
  | false =>
    simp only [evC] at h
    refine wp_region ?_
    have h' := evOps_with hasg _ h (K' := With (assigned (.region id ops false)) S R (K .normal)) (Kp' := fun ch R' => K (.panic ch) S R' ∧ R.le R') (fun S' R' h => h) (fun ch R' h l => ⟨h, l⟩)
    have := evOps_sound (w0 := w0) (M0 := M0) (R0 := R0) (dfs := dfs) hT HX hcn (Q := QK w0 M0 R0 n dfs (assigned (.region id ops false)) S R K) (fun a w ⟨bs, S1, R1, J, h1⟩ => ⟨bs, S1, R1, J, h1⟩) (fun ch a w ⟨bs, S1, R1, J, h1⟩ => ⟨bs, S1, R1, S, J, h1.1, h1.2⟩) _ bs S R a w I h'
    simpa using this
  | true =>
    simp only [evC] at h
    split at h
    · rename_i hc
      rw [Bool.and_eq_true] at hc
      have h' := evOps_with hasg _ h (K' := With (assigned (.region id ops true)) S R (K .normal)) (Kp' := fun ch R' => K (.panic ch) S R' ∧ R.le R') (fun S' R' h => h) (fun ch R' h l => ⟨h, l⟩)
      exact region_draw hm hT HX hcn I hc.1 hc.2 h' (fun a w ⟨bs, S1, R1, J, h1⟩ => ⟨bs, S1, R1, J, h1⟩) (fun ch a w ⟨bs, S1, R1, J, h1⟩ => ⟨bs, S1, R1, S, J, h1.1, h1.2⟩)
    · exact h.elim
end
end Go.KE

/- The engine, part 2G: a loop's variables. -/
namespace Go.KE
open Go.RowKit (Below)

def LTup.hd : {i : LI} → {is : List LI} → LTup (i :: is) → i.Den
  | _, [], x => x
  | _, _ :: _, x => x.1
def LTup.tl : {i : LI} → {is : List LI} → LTup (i :: is) → LTup is
  | _, [], _ => ()
  | _, _ :: _, x => x.2
theorem getX_cons {S : St} {i : LI} {is : List LI} {x : LTup (i :: is)} (h : getX S (i :: is) = some x) : i.get S = some (LTup.hd x) ∧ getX S is = some (LTup.tl x) := by
  cases is with
  | nil => exact ⟨h, rfl⟩
  | cons i' is =>
    simp only [getX] at h
    split at h
    · rename_i h1 h2
      obtain rfl := Option.some.inj h
      exact ⟨h1, h2⟩
    · cases h
theorem rowSrc_none {rt : RT} {x : LV} (h : rowSrc rt x = some none) : x = .nil ∧ ∃ T ks, rt = .sl T ks := by
  unfold rowSrc at h
  split at h
  · exact ⟨rfl, _, _, rfl⟩
  · cases h
  · cases h
  · cases h
theorem rowSrc_some {rt : RT} {x : LV} {id : Nat} (h : rowSrc rt x = some (some id)) : x = rt.lv id := by
  unfold rowSrc at h
  split at h
  · cases h
  · cases h; rfl
  · cases h; rfl
  · cases h
theorem RT.lv_no (rt : RT) (id : Nat) : rt.lv id ≠ .no := by cases rt <;> simp [RT.lv]
theorem RT.lv_says (rt : RT) (id j : Nat) : (rt.lv id).says j = Nat.beq id j := by cases rt <;> rfl
theorem RT.lv_adr (rt : RT) (id : Nat) (R : Hp) : (rt.lv id).adrOk R := by cases rt <;> trivial
theorem RT.lv_conc (rt : RT) {bs bs' : Bs} {i j : Nat} (h : bs' i = bs j) : (rt.lv i).conc bs' = (rt.lv j).conc bs := by cases rt <;> simp [RT.lv, LV.conc, h]
theorem RT.lv_nil {rt : RT} {T : TypeId} {ks : List Kd} (e : rt = .sl T ks) {bs' : Bs} {i : Nat} (h : bs' i = ⟨0, ⟨none, 0, 0⟩⟩) : (rt.lv i).conc bs' = LV.nil.conc bs' := by subst e; simp [RT.lv, LV.conc, h, Sl.val]
theorem RT.lv_good {rt : RT} {id : Nat} {A : Nat → Prop} {R : Hp} (h : A id) : (rt.lv id).good A R := ⟨fun j hs => by
  rw [RT.lv_says] at hs
  rw [← Nat.eq_of_beq_eq_true hs]
  exact h, rt.lv_adr id R⟩
theorem rowIn_iff {hid : Nat → Option HB} {rt : RT} {id : Nat} {d : List (Tup rt.ks)} (h : rowIn hid rt id = some d) : hid id = some (.row rt d) := by
  unfold rowIn at h
  split at h
  · rename_i rt' xs e
    split at h
    · rename_i hr
      subst hr
      cases h
      exact e
    · cases h
  · cases h
/-- What hangs in a cell: a block's address, alone or in a function value. -/
def LV.hang (y : LV) (j : Nat) : Prop := y = .adr j 0 ∨ ∃ f, y = .clo f [(j, 0)]
theorem LV.hang_no {y : LV} {j : Nat} (h : y.hang j) : y ≠ .no := by
  rcases h with rfl | ⟨f, rfl⟩ <;> simp
theorem LV.hang_conc {y : LV} {j : Nat} (h : y.hang j) {bs bs' : Bs} (e : bs' j = bs j) : y.conc bs' = y.conc bs := by
  rcases h with rfl | ⟨f, rfl⟩ <;> simp [LV.conc, e]
theorem LV.hang_good {y : LV} {j : Nat} (h : y.hang j) {A : Nat → Prop} {R : Hp} (e : A j) : y.good A R := by
  rcases h with rfl | ⟨f, rfl⟩
  · exact ⟨fun id hs => by rw [← Nat.eq_of_beq_eq_true hs]; exact e, trivial⟩
  · exact ⟨fun id hs => by
      simp only [LV.says, List.any_cons, List.any_nil, Bool.or_false] at hs
      rw [← Nat.eq_of_beq_eq_true hs]; exact e, trivial⟩
/-- Such an item is in the list. -/
def hasHang (is : List LI) (id off : Nat) : Prop := LI.cadr id off ∈ is ∨ ∃ f, LI.cfn id off f ∈ is
theorem hasHang_tail {i : LI} {is : List LI} {id off : Nat} (h : hasHang is id off) : hasHang (i :: is) id off := h.imp (List.mem_cons_of_mem _) fun ⟨f, h⟩ => ⟨f, List.mem_cons_of_mem _ h⟩
def rowAt (S : St) (j : Nat) : List LI → Option (Option Nat)
  | [] => none
  | .row u rt :: is => if u = j then some (LI.src S (.row u rt)) else rowAt S j is
  | .crow id off rt :: is => if crowId id off = j then some (LI.src S (.crow id off rt)) else rowAt S j is
  | .tmp _ _ :: is => rowAt S j is
  | .cell _ _ _ :: is => rowAt S j is
  | .cadr _ _ :: is => rowAt S j is
  | .cfn _ _ _ :: is => rowAt S j is
theorem envX_tmp (old : SV) (t u : Nat) (k : Kd) (is : List LI) (x : LTup (.tmp u k :: is)) : envX old t (.tmp u k :: is) x = if u = t then .l (k.lv (LTup.hd x)) else envX old t is (LTup.tl x) := by
  rcases beq_cases u t with ⟨e, h⟩ | ⟨e, h⟩
  · rw [if_pos h]; cases is <;> (simp only [envX, e]; try rfl)
  · rw [if_neg h]; cases is <;> (simp only [envX, e]; try rfl)
theorem envX_row (old : SV) (t u : Nat) (rt : RT) (is : List LI) (x : LTup (.row u rt :: is)) : envX old t (.row u rt :: is) x = if u = t then .l (rt.lv u) else envX old t is (LTup.tl x) := by
  rcases beq_cases u t with ⟨e, h⟩ | ⟨e, h⟩
  · rw [if_pos h]; cases is <;> (simp only [envX, e]; try rfl)
  · rw [if_neg h]; cases is <;> (simp only [envX, e]; try rfl)
theorem envX_cell (old : SV) (t id off : Nat) (k : Kd) (is : List LI) (x : LTup (.cell id off k :: is)) : envX old t (.cell id off k :: is) x = envX old t is (LTup.tl x) := by
  cases is <;> rfl
theorem envX_crow (old : SV) (t id off : Nat) (rt : RT) (is : List LI) (x : LTup (.crow id off rt :: is)) : envX old t (.crow id off rt :: is) x = envX old t is (LTup.tl x) := by
  cases is <;> rfl
theorem envX_cfn (old : SV) (t id off : Nat) (f : FuncId) (is : List LI) (x : LTup (.cfn id off f :: is)) : envX old t (.cfn id off f :: is) x = envX old t is (LTup.tl x) := by
  cases is <;> rfl
theorem rowX_cfn (old : Option HB) (j id off : Nat) (f : FuncId) (is : List LI) (x : LTup (.cfn id off f :: is)) : rowX old j (.cfn id off f :: is) x = rowX old j is (LTup.tl x) := by
  cases is <;> rfl
theorem envX_cadr (old : SV) (t id off : Nat) (is : List LI) (x : LTup (.cadr id off :: is)) : envX old t (.cadr id off :: is) x = envX old t is (LTup.tl x) := by
  cases is <;> rfl
theorem rowX_cadr (old : Option HB) (j id off : Nat) (is : List LI) (x : LTup (.cadr id off :: is)) : rowX old j (.cadr id off :: is) x = rowX old j is (LTup.tl x) := by
  cases is <;> rfl
theorem rowX_tmp (old : Option HB) (j u : Nat) (k : Kd) (is : List LI) (x : LTup (.tmp u k :: is)) : rowX old j (.tmp u k :: is) x = rowX old j is (LTup.tl x) := by
  cases is <;> rfl
theorem rowX_cell (old : Option HB) (j id off : Nat) (k : Kd) (is : List LI) (x : LTup (.cell id off k :: is)) : rowX old j (.cell id off k :: is) x = rowX old j is (LTup.tl x) := by
  cases is <;> rfl
theorem rowX_row (old : Option HB) (j u : Nat) (rt : RT) (is : List LI) (x : LTup (.row u rt :: is)) : rowX old j (.row u rt :: is) x = if u = j then some (.row rt (LTup.hd x)) else rowX old j is (LTup.tl x) := by
  rcases beq_cases u j with ⟨e, h⟩ | ⟨e, h⟩
  · rw [if_pos h]; cases is <;> (simp only [rowX, e]; try rfl)
  · rw [if_neg h]; cases is <;> (simp only [rowX, e]; try rfl)
theorem rowX_crow (old : Option HB) (j id off : Nat) (rt : RT) (is : List LI) (x : LTup (.crow id off rt :: is)) : rowX old j (.crow id off rt :: is) x = if crowId id off = j then some (.row rt (LTup.hd x)) else rowX old j is (LTup.tl x) := by
  rcases beq_cases (crowId id off) j with ⟨e, h⟩ | ⟨e, h⟩
  · rw [if_pos h]; cases is <;> (simp only [rowX, e]; try rfl)
  · rw [if_neg h]; cases is <;> (simp only [rowX, e]; try rfl)
theorem cellX_tmp (id off u : Nat) (k : Kd) (is : List LI) (x : LTup (.tmp u k :: is)) : cellX id off (.tmp u k :: is) x = cellX id off is (LTup.tl x) := by
  cases is <;> rfl
theorem cellX_row (id off u : Nat) (rt : RT) (is : List LI) (x : LTup (.row u rt :: is)) : cellX id off (.row u rt :: is) x = cellX id off is (LTup.tl x) := by
  cases is <;> rfl
theorem and_beq (u o id off : Nat) : (Nat.beq u id && Nat.beq o off) = decide (u = id ∧ o = off) := by
  rcases beq_cases u id with ⟨e, h⟩ | ⟨e, h⟩ <;> rcases beq_cases o off with ⟨e', h'⟩ | ⟨e', h'⟩ <;> simp [e, e', h, h']
theorem cellX_cell (id off u o : Nat) (k : Kd) (is : List LI) (x : LTup (.cell u o k :: is)) : cellX id off (.cell u o k :: is) x = if u = id ∧ o = off then k.lv (LTup.hd x) else cellX id off is (LTup.tl x) := by
  by_cases h : u = id ∧ o = off
  · have e : (Nat.beq u id && Nat.beq o off) = true := by rw [and_beq]; simpa using h
    rw [if_pos h]; cases is <;> (simp only [cellX, e]; try rfl)
  · have e : (Nat.beq u id && Nat.beq o off) = false := by rw [and_beq]; simpa using h
    rw [if_neg h]; cases is <;> (simp only [cellX, e]; try rfl)
theorem cellX_crow (id off u o : Nat) (rt : RT) (is : List LI) (x : LTup (.crow u o rt :: is)) : cellX id off (.crow u o rt :: is) x = if u = id ∧ o = off then rt.lv (crowId u o) else cellX id off is (LTup.tl x) := by
  by_cases h : u = id ∧ o = off
  · have e : (Nat.beq u id && Nat.beq o off) = true := by rw [and_beq]; simpa using h
    rw [if_pos h]; cases is <;> (simp only [cellX, e]; try rfl)
  · have e : (Nat.beq u id && Nat.beq o off) = false := by rw [and_beq]; simpa using h
    rw [if_neg h]; cases is <;> (simp only [cellX, e]; try rfl)
theorem cellX_cadr (id off u o : Nat) (is : List LI) (x : LTup (.cadr u o :: is)) : cellX id off (.cadr u o :: is) x = if u = id ∧ o = off then .adr (crowId u o) 0 else cellX id off is (LTup.tl x) := by
  by_cases h : u = id ∧ o = off
  · have e : (Nat.beq u id && Nat.beq o off) = true := by rw [and_beq]; simpa using h
    rw [if_pos h]; cases is <;> (simp only [cellX, e]; try rfl)
  · have e : (Nat.beq u id && Nat.beq o off) = false := by rw [and_beq]; simpa using h
    rw [if_neg h]; cases is <;> (simp only [cellX, e]; try rfl)

theorem cellX_cfn (id off u o : Nat) (f : FuncId) (is : List LI) (x : LTup (.cfn u o f :: is)) : cellX id off (.cfn u o f :: is) x = if u = id ∧ o = off then .clo f [(crowId u o, 0)] else cellX id off is (LTup.tl x) := by
  by_cases h : u = id ∧ o = off
  · have e : (Nat.beq u id && Nat.beq o off) = true := by rw [and_beq]; simpa using h
    rw [if_pos h]; cases is <;> (simp only [cellX, e]; try rfl)
  · have e : (Nat.beq u id && Nat.beq o off) = false := by rw [and_beq]; simpa using h
    rw [if_neg h]; cases is <;> (simp only [cellX, e]; try rfl)
/-- What a row item takes. -/
theorem get_row {S : St} {u : Nat} {rt : RT} {d : List (Tup rt.ks)} (h : LI.get S (.row u rt) = some d) :
    (S.env u = .l .nil ∧ d = [] ∧ LI.src S (.row u rt) = none ∧ ∃ T ks, rt = .sl T ks) ∨ ∃ id, S.env u = .l (rt.lv id) ∧ S.hid id = some (.row rt d) ∧ LI.src S (.row u rt) = some id := by
  simp only [LI.get] at h
  cases e : S.env u with
  | l y =>
    rw [e] at h
    simp only at h
    cases e2 : rowSrc rt y with
    | none => rw [e2] at h; cases h
    | some s =>
      rw [e2] at h
      cases s with
      | none =>
        obtain ⟨rfl, hr⟩ := rowSrc_none e2
        exact .inl ⟨rfl, (Option.some.inj h).symm, by simp only [LI.src, e, e2], hr⟩
      | some id => exact .inr ⟨id, by rw [rowSrc_some e2], rowIn_iff h, by simp only [LI.src, e, e2]⟩
  | g cs => rw [e] at h; cases h
  | t cs => rw [e] at h; cases h
theorem get_crow {S : St} {u o : Nat} {rt : RT} {d : List (Tup rt.ks)} (h : LI.get S (.crow u o rt) = some d) :
    ∃ T' cs, S.hid u = some (.cells T' cs) ∧ ((cs[o]? = some .nil ∧ d = [] ∧ LI.src S (.crow u o rt) = none ∧ ∃ T ks, rt = .sl T ks) ∨ ∃ id, cs[o]? = some (rt.lv id) ∧ S.hid id = some (.row rt d) ∧ LI.src S (.crow u o rt) = some id) := by
  simp only [LI.get] at h
  split at h
  · rename_i T' cs e
    refine ⟨T', cs, e, ?_⟩
    split at h
    · rename_i y ey
      cases e2 : rowSrc rt y with
      | none => rw [e2] at h; cases h
      | some s =>
        rw [e2] at h
        cases s with
        | none =>
          obtain ⟨rfl, hr⟩ := rowSrc_none e2
          exact .inl ⟨ey, (Option.some.inj h).symm, by simp only [LI.src, e, ey, e2], hr⟩
        | some id => exact .inr ⟨id, by rw [ey, rowSrc_some e2], rowIn_iff h, by simp only [LI.src, e, ey, e2]⟩
    · cases h
  · cases h
theorem get_cfn {S : St} {u o : Nat} {f : FuncId} {d : Unit} (h : LI.get S (.cfn u o f) = some d) : ∃ T cs, S.hid u = some (.cells T cs) ∧ cs[o]? = some (.clo f [(crowId u o, 0)]) := by
  simp only [LI.get] at h
  split at h
  · rename_i T cs e
    refine ⟨T, cs, e, ?_⟩
    split at h
    · rename_i g j o' e2
      split at h
      · rename_i hc
        simp only [Bool.and_eq_true] at hc
        rw [e2, Nat.eq_of_beq_eq_true hc.1.1, Nat.eq_of_beq_eq_true hc.1.2, Nat.eq_of_beq_eq_true hc.2]
      · cases h
    · cases h
  · cases h
theorem get_cadr {S : St} {u o : Nat} {d : Unit} (h : LI.get S (.cadr u o) = some d) : ∃ T cs, S.hid u = some (.cells T cs) ∧ cs[o]? = some (.adr (crowId u o) 0) := by
  simp only [LI.get] at h
  split at h
  · rename_i T cs e
    refine ⟨T, cs, e, ?_⟩
    split at h
    · rename_i j o' e2
      split at h
      · rename_i hc
        rw [Bool.and_eq_true] at hc
        rw [e2, Nat.eq_of_beq_eq_true hc.1, Nat.eq_of_beq_eq_true hc.2]
      · cases h
    · cases h
  · cases h
theorem srcs_cons (S : St) (i : LI) (is : List LI) : srcs S (i :: is) = (match i.src S with | some id => id :: srcs S is | none => srcs S is) := rfl
theorem srcs_tail {S : St} {i : LI} {is : List LI} {id : Nat} (h : id ∈ srcs S is) : id ∈ srcs S (i :: is) := by
  rw [srcs_cons]
  split
  · exact List.mem_cons_of_mem _ h
  · exact h
theorem srcs_head {S : St} {i : LI} {is : List LI} {id : Nat} (h : i.src S = some id) : id ∈ srcs S (i :: is) := by
  rw [srcs_cons, h]; simp
theorem rowAt_srcs {S : St} {j id : Nat} : ∀ {is : List LI}, rowAt S j is = some (some id) → id ∈ srcs S is
  | .tmp _ _ :: is, h => srcs_tail (rowAt_srcs (is := is) h)
  | .cell _ _ _ :: is, h => srcs_tail (rowAt_srcs (is := is) h)
  | .cadr _ _ :: is, h => srcs_tail (rowAt_srcs (is := is) h)
  | .cfn _ _ _ :: is, h => srcs_tail (rowAt_srcs (is := is) h)
  | .row u rt :: is, h => by
    simp only [rowAt] at h
    split at h
    · exact srcs_head (Option.some.inj h)
    · exact srcs_tail (rowAt_srcs h)
  | .crow u o rt :: is, h => by
    simp only [rowAt] at h
    split at h
    · exact srcs_head (Option.some.inj h)
    · exact srcs_tail (rowAt_srcs h)
theorem srcs_nodup {S : St} {i : LI} {is : List LI} (h : (srcs S (i :: is)).Nodup) : (srcs S is).Nodup ∧ ∀ id, i.src S = some id → id ∉ srcs S is := by
  rw [srcs_cons] at h
  split at h
  · rename_i id e
    rw [List.nodup_cons] at h
    exact ⟨h.2, fun id' e' => by rw [e] at e'; cases e'; exact h.1⟩
  · rename_i e
    exact ⟨h, fun id' e' => by rw [e] at e'; cases e'⟩
theorem rowAt_inj {S : St} {i j id : Nat} : ∀ {is : List LI}, (srcs S is).Nodup → rowAt S i is = some (some id) → rowAt S j is = some (some id) → i = j
  | .tmp _ _ :: is, hn, h1, h2 => rowAt_inj (is := is) (srcs_nodup hn).1 h1 h2
  | .cell _ _ _ :: is, hn, h1, h2 => rowAt_inj (is := is) (srcs_nodup hn).1 h1 h2
  | .cadr _ _ :: is, hn, h1, h2 => rowAt_inj (is := is) (srcs_nodup hn).1 h1 h2
  | .cfn _ _ _ :: is, hn, h1, h2 => rowAt_inj (is := is) (srcs_nodup hn).1 h1 h2
  | .row u rt :: is, hn, h1, h2 => by
    obtain ⟨n1, n2⟩ := srcs_nodup hn
    simp only [rowAt] at h1 h2
    split at h1 <;> split at h2
    · rename_i e1 e2; exact e1.symm.trans e2
    · exact absurd (rowAt_srcs h2) (n2 id (Option.some.inj h1))
    · exact absurd (rowAt_srcs h1) (n2 id (Option.some.inj h2))
    · exact rowAt_inj n1 h1 h2
  | .crow u o rt :: is, hn, h1, h2 => by
    obtain ⟨n1, n2⟩ := srcs_nodup hn
    simp only [rowAt] at h1 h2
    split at h1 <;> split at h2
    · rename_i e1 e2; exact e1.symm.trans e2
    · exact absurd (rowAt_srcs h2) (n2 id (Option.some.inj h1))
    · exact absurd (rowAt_srcs h1) (n2 id (Option.some.inj h2))
    · exact rowAt_inj n1 h1 h2
theorem rowAt_isRow {S : St} {j : Nat} : ∀ {is : List LI}, rowAt S j is = none ↔ isRowOf j is = false
  | [] => by simp [rowAt, isRowOf]
  | .tmp _ _ :: is => rowAt_isRow (is := is)
  | .cell _ _ _ :: is => rowAt_isRow (is := is)
  | .cadr _ _ :: is => rowAt_isRow (is := is)
  | .cfn _ _ _ :: is => rowAt_isRow (is := is)
  | .row u rt :: is => by
    simp only [rowAt, isRowOf]
    rcases beq_cases u j with ⟨e, h⟩ | ⟨e, h⟩
    · rw [e]; simp [h]
    · rw [e]; simp only [h, if_false]; exact rowAt_isRow
  | .crow u o rt :: is => by
    simp only [rowAt, isRowOf]
    rcases beq_cases (crowId u o) j with ⟨e, h⟩ | ⟨e, h⟩
    · rw [e]; simp [h]
    · rw [e]; simp only [h, if_false]; exact rowAt_isRow
theorem rowAt_nums {S : St} {j : Nat} {s : Option Nat} : ∀ {is : List LI}, rowAt S j is = some s → j ∈ rowNums is
  | .tmp _ _ :: is, h => rowAt_nums (is := is) h
  | .cell _ _ _ :: is, h => rowAt_nums (is := is) h
  | .cadr _ _ :: is, h => rowAt_nums (is := is) h
  | .cfn _ _ _ :: is, h => rowAt_nums (is := is) h
  | .row u rt :: is, h => by
    simp only [rowAt] at h
    simp only [rowNums, List.mem_cons]
    split at h
    · rename_i e; exact .inl e.symm
    · exact .inr (rowAt_nums h)
  | .crow u o rt :: is, h => by
    simp only [rowAt] at h
    simp only [rowNums, List.mem_cons]
    split at h
    · rename_i e; exact .inl e.symm
    · exact .inr (rowAt_nums h)
theorem nums_rowAt {S : St} {j : Nat} : ∀ {is : List LI}, j ∈ rowNums is → rowAt S j is ≠ none
  | .tmp _ _ :: is, h => nums_rowAt (is := is) h
  | .cell _ _ _ :: is, h => nums_rowAt (is := is) h
  | .cadr _ _ :: is, h => nums_rowAt (is := is) h
  | .cfn _ _ _ :: is, h => nums_rowAt (is := is) h
  | .row u rt :: is, h => by
    simp only [rowNums, List.mem_cons] at h
    simp only [rowAt]
    split
    · simp
    · rename_i e
      rcases h with h | h
      · exact absurd h.symm e
      · exact nums_rowAt h
  | .crow u o rt :: is, h => by
    simp only [rowNums, List.mem_cons] at h
    simp only [rowAt]
    split
    · simp
    · rename_i e
      rcases h with h | h
      · exact absurd h.symm e
      · exact nums_rowAt h

/-- The slices at a loop's head. -/
theorem rowX_cases {S : St} (old : Option HB) (j : Nat) : ∀ {is : List LI} {x : LTup is}, getX S is = some x →
    (rowAt S j is = none ∧ rowX old j is x = old) ∨ ∃ rt d, rowX old j is x = some (.row rt d) ∧ ((rowAt S j is = some none ∧ d = [] ∧ ∃ T ks, rt = .sl T ks) ∨ ∃ id, rowAt S j is = some (some id) ∧ S.hid id = some (.row rt d))
  | [], x, _ => .inl ⟨rfl, rfl⟩
  | .tmp u k :: is, x, h => by rw [rowX_tmp]; exact rowX_cases old j (is := is) (getX_cons h).2
  | .cell u o k :: is, x, h => by rw [rowX_cell]; exact rowX_cases old j (is := is) (getX_cons h).2
  | .cadr u o :: is, x, h => by rw [rowX_cadr]; exact rowX_cases old j (is := is) (getX_cons h).2
  | .cfn u o f :: is, x, h => by rw [rowX_cfn]; exact rowX_cases old j (is := is) (getX_cons h).2
  | .row u rt :: is, x, h => by
    obtain ⟨h1, h2⟩ := getX_cons h
    rw [rowX_row]
    simp only [rowAt]
    split
    · right
      refine ⟨rt, _, rfl, ?_⟩
      rcases get_row h1 with ⟨_, e2, e3, e4⟩ | ⟨id, _, e2, e3⟩
      · exact .inl ⟨by rw [e3], e2, e4⟩
      · exact .inr ⟨id, by rw [e3], e2⟩
    · exact rowX_cases old j h2
  | .crow u o rt :: is, x, h => by
    obtain ⟨h1, h2⟩ := getX_cons h
    rw [rowX_crow]
    simp only [rowAt]
    split
    · right
      refine ⟨rt, _, rfl, ?_⟩
      obtain ⟨T', cs, e0, ⟨_, e2, e3, e4⟩ | ⟨id, _, e2, e3⟩⟩ := get_crow h1
      · exact .inl ⟨by rw [e3], e2, e4⟩
      · exact .inr ⟨id, by rw [e3], e2⟩
    · exact rowX_cases old j h2
/-- The slots at a loop's head. -/
theorem envX_cases {S : St} (old : SV) (t : Nat) : ∀ {is : List LI} {x : LTup is}, (rowNums is).Nodup → getX S is = some x →
    envX old t is x = old ∨ (∃ y k d, S.env t = .l y ∧ LV.den k y = some d ∧ envX old t is x = .l (k.lv d)) ∨
      ∃ rt : RT, envX old t is x = .l (rt.lv t) ∧ ((S.env t = .l .nil ∧ rowAt S t is = some none ∧ ∃ T ks, rt = .sl T ks) ∨ ∃ id, S.env t = .l (rt.lv id) ∧ rowAt S t is = some (some id))
  | [], x, _, _ => .inl rfl
  | .tmp u k :: is, x, hn, h => by
    obtain ⟨h1, h2⟩ := getX_cons h
    rw [envX_tmp]
    split
    · rename_i e
      subst e
      right; left
      simp only [LI.get] at h1
      cases e : S.env u with
      | l y => rw [e] at h1; exact ⟨y, k, _, rfl, h1, rfl⟩
      | g cs => rw [e] at h1; simp at h1
      | t cs => rw [e] at h1; simp at h1
    · exact envX_cases old t (is := is) hn h2
  | .cell u o k :: is, x, hn, h => by rw [envX_cell]; exact envX_cases old t (is := is) hn (getX_cons h).2
  | .cadr u o :: is, x, hn, h => by rw [envX_cadr]; exact envX_cases old t (is := is) hn (getX_cons h).2
  | .cfn u o f :: is, x, hn, h => by rw [envX_cfn]; exact envX_cases old t (is := is) hn (getX_cons h).2
  | .row u rt :: is, x, hn, h => by
    obtain ⟨h1, h2⟩ := getX_cons h
    simp only [rowNums, List.nodup_cons] at hn
    rw [envX_row]
    simp only [rowAt]
    split
    · rename_i e
      subst e
      right; right
      refine ⟨rt, rfl, ?_⟩
      rcases get_row h1 with ⟨e1, e2, e3, e4⟩ | ⟨id, e1, e2, e3⟩
      · exact .inl ⟨e1, by rw [e3], e4⟩
      · exact .inr ⟨id, e1, by rw [e3]⟩
    · exact envX_cases old t hn.2 h2
  | .crow u o rt :: is, x, hn, h => by
    obtain ⟨h1, h2⟩ := getX_cons h
    simp only [rowNums, List.nodup_cons] at hn
    rw [envX_crow]
    simp only [rowAt]
    rcases envX_cases old t hn.2 h2 with h | h | ⟨rt', h⟩
    · exact .inl h
    · exact .inr (.inl h)
    · right; right
      refine ⟨rt', h.1, ?_⟩
      split
      · rename_i e
        exfalso
        rcases h.2 with ⟨_, h3, _⟩ | ⟨_, _, h3⟩
        · exact hn.1 (e ▸ rowAt_nums h3)
        · exact hn.1 (e ▸ rowAt_nums h3)
      · exact h.2
/-- The cells at a loop's head. -/
theorem cellX_cases {S : St} (id off : Nat) : ∀ {is : List LI} {x : LTup is}, (rowNums is).Nodup → getX S is = some x →
    cellX id off is x = .no ∨ (∃ T cs y k d, S.hid id = some (.cells T cs) ∧ cs[off]? = some y ∧ LV.den k y = some d ∧ cellX id off is x = k.lv d) ∨
      (∃ rt : RT, cellX id off is x = rt.lv (crowId id off) ∧ ∃ T cs, S.hid id = some (.cells T cs) ∧ ((cs[off]? = some .nil ∧ rowAt S (crowId id off) is = some none ∧ ∃ T ks, rt = .sl T ks) ∨ ∃ id', cs[off]? = some (rt.lv id') ∧ rowAt S (crowId id off) is = some (some id'))) ∨
      ((cellX id off is x).hang (crowId id off) ∧ hasHang is id off ∧ ∃ T cs, S.hid id = some (.cells T cs) ∧ cs[off]? = some (cellX id off is x))
  | [], x, _, _ => .inl rfl
  | .tmp u k :: is, x, hn, h => by
    rw [cellX_tmp]
    rcases cellX_cases id off (is := is) hn (getX_cons h).2 with h | h | h | h
    · exact .inl h
    · exact .inr (.inl h)
    · exact .inr (.inr (.inl h))
    · exact .inr (.inr (.inr ⟨h.1, hasHang_tail h.2.1, h.2.2⟩))
  | .row u rt :: is, x, hn, h => by
    obtain ⟨h1, h2⟩ := getX_cons h
    simp only [rowNums, List.nodup_cons] at hn
    rw [cellX_row]
    simp only [rowAt]
    rcases cellX_cases id off hn.2 h2 with h | h | ⟨rt', h, T', cs, h0, h3⟩ | h
    · exact .inl h
    · exact .inr (.inl h)
    · right; right; left
      refine ⟨rt', h, T', cs, h0, ?_⟩
      split
      · rename_i e
        exfalso
        rcases h3 with ⟨_, h3, _⟩ | ⟨_, _, h3⟩
        · exact hn.1 (e ▸ rowAt_nums h3)
        · exact hn.1 (e ▸ rowAt_nums h3)
      · exact h3
    · exact .inr (.inr (.inr ⟨h.1, hasHang_tail h.2.1, h.2.2⟩))
  | .cadr u o :: is, x, hn, h => by
    obtain ⟨h1, h2⟩ := getX_cons h
    rw [cellX_cadr]
    split
    · rename_i e
      obtain ⟨rfl, rfl⟩ := e
      obtain ⟨T, cs, e1, e2⟩ := get_cadr h1
      exact .inr (.inr (.inr ⟨.inl rfl, .inl (by simp), T, cs, e1, e2⟩))
    · rcases cellX_cases id off (is := is) hn h2 with h | h | h | h
      · exact .inl h
      · exact .inr (.inl h)
      · exact .inr (.inr (.inl h))
      · exact .inr (.inr (.inr ⟨h.1, hasHang_tail h.2.1, h.2.2⟩))
  | .cfn u o f :: is, x, hn, h => by
    obtain ⟨h1, h2⟩ := getX_cons h
    rw [cellX_cfn]
    split
    · rename_i e
      obtain ⟨rfl, rfl⟩ := e
      obtain ⟨T, cs, e1, e2⟩ := get_cfn h1
      exact .inr (.inr (.inr ⟨.inr ⟨f, rfl⟩, .inr ⟨f, by simp⟩, T, cs, e1, e2⟩))
    · rcases cellX_cases id off (is := is) hn h2 with h | h | h | h
      · exact .inl h
      · exact .inr (.inl h)
      · exact .inr (.inr (.inl h))
      · exact .inr (.inr (.inr ⟨h.1, hasHang_tail h.2.1, h.2.2⟩))
  | .cell u o k :: is, x, hn, h => by
    obtain ⟨h1, h2⟩ := getX_cons h
    rw [cellX_cell]
    split
    · rename_i e
      obtain ⟨rfl, rfl⟩ := e
      right; left
      simp only [LI.get] at h1
      split at h1
      · rename_i T cs e
        split at h1
        · rename_i y e2
          exact ⟨T, cs, y, k, _, e, e2, h1, rfl⟩
        · cases h1
      · cases h1
    · rcases cellX_cases id off (is := is) hn h2 with h | h | h | h
      · exact .inl h
      · exact .inr (.inl h)
      · exact .inr (.inr (.inl h))
      · exact .inr (.inr (.inr ⟨h.1, hasHang_tail h.2.1, h.2.2⟩))
  | .crow u o rt :: is, x, hn, h => by
    obtain ⟨h1, h2⟩ := getX_cons h
    simp only [rowNums, List.nodup_cons] at hn
    rw [cellX_crow]
    simp only [rowAt]
    split
    · rename_i e
      obtain ⟨rfl, rfl⟩ := e
      right; right; left
      obtain ⟨T', cs, e0, ⟨e1, e2, e3, e4⟩ | ⟨id', e1, e2, e3⟩⟩ := get_crow h1
      · exact ⟨rt, rfl, T', cs, e0, .inl ⟨e1, by rw [if_pos rfl, e3], e4⟩⟩
      · exact ⟨rt, rfl, T', cs, e0, .inr ⟨id', e1, by rw [if_pos rfl, e3]⟩⟩
    · rcases cellX_cases id off hn.2 h2 with h | h | ⟨rt', h, T', cs, h0, h3⟩ | h
      · exact .inl h
      · exact .inr (.inl h)
      · right; right; left
        refine ⟨rt', h, T', cs, h0, ?_⟩
        split
        · rename_i e
          exfalso
          rcases h3 with ⟨_, h3, _⟩ | ⟨_, _, h3⟩
          · exact hn.1 (e ▸ rowAt_nums h3)
          · exact hn.1 (e ▸ rowAt_nums h3)
        · exact h3
      · exact .inr (.inr (.inr ⟨h.1, hasHang_tail h.2.1, h.2.2⟩))
end Go.KE

/- The engine, part 2H: a loop's head stands for the state. -/
namespace Go.KE
open Go.RowKit (Below)

def maskL (f : Nat → Bool) (c : LV) : LV := match c.saysP f with | true => .no | false => c
def headBase (S : St) (h : LH) (asg : List Nat) (x : LTup h.items) (j : Nat) : Option HB := match blkOf j h.blks with
  | some (T, n) => some (.cells T (cellsX j h.items x 0 n))
  | none => match memB j asg || memB j (srcs S h.items) with
    | true => none
    | false => match S.hid j with
      | some (.cells T cs) => some (.cells T (cs.map (maskL (anewX S h asg))))
      | some y => (match isRowOf j h.items with | true => none | false => some y)
      | none => none
theorem headX_hid (S : St) (h : LH) (asg : List Nat) (x : LTup h.items) (j : Nat) : (headX S h asg x).hid j = rowX (headBase S h asg x j) j h.items x := rfl
def headEnv (S : St) (h : LH) (asg : List Nat) (t : Nat) : SV := match memB t asg with
  | true => .l .no
  | false => match (S.env t).saysP (anewX S h asg) with | true => .l .no | false => S.env t
theorem headX_env (S : St) (h : LH) (asg : List Nat) (x : LTup h.items) (t : Nat) : (headX S h asg x).env t = envX (headEnv S h asg t) t h.items x := rfl

/-- A thing that is said and may not be bound anew is there at the head as it was. -/
structure HeadOk0 (S : St) (h : LH) (asg : List Nat) : Prop where
  rows : okRows S h asg h.items = true
  srcs : okSrcs S (KE.srcs S h.items) = true
  nums : (rowNums h.items).Nodup
  asgs : okAsg S asg = true
structure HeadOk (S : St) (h : LH) (asg : List Nat) : Prop extends HeadOk0 S h asg where
  blks : okBlks S asg h.blks = true
theorem okRows_row {S : St} {h : LH} {asg : List Nat} {j : Nat} : ∀ {is : List LI}, okRows S h asg is = true → isRowOf j is = true → S.own j = true ∧ S.anew j = true ∧ blkOf j h.blks = none
  | .tmp t k :: is, h1, h2 => by
    simp only [okRows] at h1
    split at h1
    · exact okRows_row (is := is) h1 h2
    · cases h1
  | .cell _ _ _ :: is, h1, h2 => okRows_row (is := is) h1 h2
  | .cadr _ _ :: is, h1, h2 => by
    simp only [okRows] at h1
    split at h1
    · exact okRows_row (is := is) h1 h2
    · cases h1
  | .cfn _ _ _ :: is, h1, h2 => by
    simp only [okRows] at h1
    split at h1
    · exact okRows_row (is := is) h1 h2
    · cases h1
  | .row u rt :: is, h1, h2 => by
    simp only [okRows] at h1
    split at h1
    · rename_i hc
      simp only [Bool.and_eq_true] at hc
      simp only [isRowOf] at h2
      rcases beq_cases u j with ⟨e, rfl⟩ | ⟨e, _⟩
      · refine ⟨hc.1.1.2, hc.1.2, ?_⟩
        have := hc.2
        split at this
        · assumption
        · cases this
      · rw [e] at h2; exact okRows_row h1 h2
    · cases h1
  | .crow id off rt :: is, h1, h2 => by
    simp only [okRows] at h1
    split at h1
    · rename_i hc
      simp only [Bool.and_eq_true] at hc
      simp only [isRowOf] at h2
      rcases beq_cases (crowId id off) j with ⟨e, rfl⟩ | ⟨e, _⟩
      · refine ⟨hc.1.1, hc.1.2, ?_⟩
        have := hc.2
        split at this
        · assumption
        · cases this
      · rw [e] at h2; exact okRows_row h1 h2
    · cases h1
theorem okRows_hang {S : St} {h : LH} {asg : List Nat} {u o : Nat} : ∀ {is : List LI}, okRows S h asg is = true → hasHang is u o → blkOf (crowId u o) h.blks ≠ none
  | [], _, h2 => by rcases h2 with h2 | ⟨f, h2⟩ <;> simp at h2
  | .tmp t k :: is, h1, h2 => by
    simp only [okRows] at h1
    split at h1
    · exact okRows_hang (is := is) h1 (by simpa [hasHang] using h2)
    · cases h1
  | .cell _ _ _ :: is, h1, h2 => okRows_hang (is := is) h1 (by simpa [hasHang] using h2)
  | .row u rt :: is, h1, h2 => by
    simp only [okRows] at h1
    split at h1
    · exact okRows_hang (is := is) h1 (by simpa [hasHang] using h2)
    · cases h1
  | .crow id off rt :: is, h1, h2 => by
    simp only [okRows] at h1
    split at h1
    · exact okRows_hang (is := is) h1 (by simpa [hasHang] using h2)
    · cases h1
  | .cadr id off :: is, h1, h2 => by
    simp only [okRows] at h1
    split at h1
    · rename_i e
      rcases h2 with h2 | ⟨f, h2⟩
      · rcases List.mem_cons.1 h2 with h2 | h2
        · cases h2
          rw [e]; simp
        · exact okRows_hang h1 (.inl h2)
      · rcases List.mem_cons.1 h2 with h2 | h2
        · cases h2
        · exact okRows_hang h1 (.inr ⟨f, h2⟩)
    · cases h1
  | .cfn id off g :: is, h1, h2 => by
    simp only [okRows] at h1
    split at h1
    · rename_i e
      rcases h2 with h2 | ⟨f, h2⟩
      · rcases List.mem_cons.1 h2 with h2 | h2
        · cases h2
        · exact okRows_hang h1 (.inl h2)
      · rcases List.mem_cons.1 h2 with h2 | h2
        · cases h2
          rw [e]; simp
        · exact okRows_hang h1 (.inr ⟨f, h2⟩)
    · cases h1
theorem okSrcs_iff {S : St} : ∀ {l : List Nat}, okSrcs S l = true → l.Nodup ∧ ∀ id ∈ l, S.own id = true ∧ S.anew id = true
  | [], _ => ⟨List.nodup_nil, fun id h => by simp at h⟩
  | id :: ids, h => by
    simp only [okSrcs] at h
    split at h
    · rename_i hc
      simp only [Bool.and_eq_true, Bool.not_eq_true'] at hc
      obtain ⟨h1, h2⟩ := okSrcs_iff h
      refine ⟨List.nodup_cons.2 ⟨memB_false.1 hc.2, h1⟩, fun j hj => ?_⟩
      rcases List.mem_cons.1 hj with rfl | hj
      · exact hc.1
      · exact h2 j hj
    · cases h
theorem okBlks_iff {S : St} {asg : List Nat} {j : Nat} {T : TypeId} {n : Nat} : ∀ {l : List (Nat × TypeId × Nat)}, okBlks S asg l = true → blkOf j l = some (T, n) → S.own j = true ∧ j ∉ asg ∧ ∃ cs, S.hid j = some (.cells T cs) ∧ cs.length = n
  | (u, T', m) :: bs, h, hb => by
    simp only [okBlks] at h
    split at h
    · cases h
    · rename_i hc
      split at h
      · rename_i T2 cs e
        split at h
        · rename_i hc2
          simp only [blkOf] at hb
          rcases beq_cases u j with ⟨e1, rfl⟩ | ⟨e1, _⟩
          · rw [e1] at hb
            obtain ⟨rfl, rfl⟩ : T' = T ∧ m = n := by simpa using hb
            simp only [Bool.and_eq_true, Bool.not_eq_true'] at hc hc2
            refine ⟨hc.1, memB_false.1 hc.2, cs, ?_, Nat.eq_of_beq_eq_true hc2.2⟩
            rw [e, Nat.eq_of_beq_eq_true hc2.1]
          · rw [e1] at hb
            exact okBlks_iff h hb
        · cases h
      · cases h
theorem okEnd_iff {S : St} {j : Nat} {T : TypeId} {n : Nat} : ∀ {l : List (Nat × TypeId × Nat)}, okEnd S l = true → blkOf j l = some (T, n) → ∃ cs, S.hid j = some (.cells T cs) ∧ cs.length = n
  | (u, T', m) :: bs, h, hb => by
    simp only [okEnd] at h
    split at h
    · rename_i T2 cs e
      split at h
      · rename_i hc2
        simp only [blkOf] at hb
        rcases beq_cases u j with ⟨e1, rfl⟩ | ⟨e1, _⟩
        · rw [e1] at hb
          obtain ⟨rfl, rfl⟩ : T' = T ∧ m = n := by simpa using hb
          simp only [Bool.and_eq_true] at hc2
          refine ⟨cs, ?_, Nat.eq_of_beq_eq_true hc2.2⟩
          rw [e, Nat.eq_of_beq_eq_true hc2.1]
        · rw [e1] at hb
          exact okEnd_iff h hb
      · cases h
    · cases h
theorem anewX_le {S : St} {h : LH} {asg : List Nat} {j : Nat} (e : anewX S h asg j = true) : S.anew j = true := by
  unfold anewX at e
  split at e
  · cases e
  · assumption
theorem anewX_row {S : St} {h : LH} {asg : List Nat} {j : Nat} (e : S.anew j = true) (hr : isRowOf j h.items = true) : anewX S h asg j = true := by
  unfold anewX
  rw [e]
  simp only
  rw [hr]
theorem anewX_mem {S : St} {h : LH} {asg : List Nat} {j : Nat} (e : S.anew j = true) (hm : j ∈ asg ∨ j ∈ srcs S h.items) : anewX S h asg j = true := by
  unfold anewX
  rw [e]
  simp only
  split
  · rfl
  · have : (memB j asg || memB j (KE.srcs S h.items)) = true := by
      rw [Bool.or_eq_true, memB_iff, memB_iff]; exact hm
    rw [this]
theorem anewX_false {S : St} {h : LH} {asg : List Nat} {j : Nat} (hr : isRowOf j h.items = false) (hm : j ∉ asg) (hs : j ∉ srcs S h.items) (hh : S.hid j ≠ none) : anewX S h asg j = false := by
  unfold anewX
  split
  · rfl
  · rw [hr]
    simp only
    rw [memB_false.2 hm, memB_false.2 hs]
    simp only [Bool.or_self]
    split
    · rename_i e; exact absurd e hh
    · rfl
theorem okAsg_iff {S : St} {asg : List Nat} (h : okAsg S asg = true) {j : Nat} (hj : j ∈ asg) (hh : S.hid j ≠ none) : S.anew j = true := by
  unfold okAsg at h
  rw [allB_iff] at h
  have := h j hj
  split at this
  · assumption
  · split at this
    · rename_i e; exact absurd e hh
    · cases this
/-- What is alive and may not be bound anew stays alive at the head, and is no slice variable. -/
theorem HeadOk0.alive {S : St} {h : LH} {asg : List Nat} (H : HeadOk0 S h asg) (x : LTup h.items) {j : Nat} (hA : anewX S h asg j = false) (hh : S.hid j ≠ none) : (headX S h asg x).hid j ≠ none ∧ isRowOf j h.items = false := by
  have hr : isRowOf j h.items = false := by
    cases e : isRowOf j h.items with
    | false => rfl
    | true => rw [anewX_row (okRows_row H.rows e).2.1 e] at hA; cases hA
  refine ⟨?_, hr⟩
  have hb : headBase S h asg x j ≠ none := by
    unfold headBase
    split
    · simp
    · have hm : j ∉ asg := fun hm => by rw [anewX_mem (okAsg_iff H.asgs hm hh) (.inl hm)] at hA; cases hA
      have hs : j ∉ KE.srcs S h.items := fun hm => by rw [anewX_mem ((okSrcs_iff H.srcs).2 j hm).2 (.inr hm)] at hA; cases hA
      rw [memB_false.2 hm, memB_false.2 hs]
      simp only [Bool.or_self]
      split
      · simp
      · rw [hr]; simp
      · rename_i e; exact absurd e hh
  have : rowX (headBase S h asg x j) j h.items x = headBase S h asg x j := by
    have key : ∀ (is : List LI) (x : LTup is) (old : Option HB), isRowOf j is = false → rowX old j is x = old := by
      intro is
      induction is with
      | nil => intro x old _; rfl
      | cons i is ih =>
        intro x old hr
        cases i with
        | tmp u k => rw [rowX_tmp]; exact ih _ old hr
        | cell u o k => rw [rowX_cell]; exact ih _ old hr
        | cadr u o => rw [rowX_cadr]; exact ih _ old hr
        | cfn u o f => rw [rowX_cfn]; exact ih _ old hr
        | row u rt =>
          simp only [isRowOf] at hr
          rw [rowX_row]
          rcases beq_cases u j with ⟨e, h⟩ | ⟨e, h⟩
          · rw [e] at hr; cases hr
          · rw [e] at hr; rw [if_neg h]; exact ih _ old hr
        | crow u o rt =>
          simp only [isRowOf] at hr
          rw [rowX_crow]
          rcases beq_cases (crowId u o) j with ⟨e, h⟩ | ⟨e, h⟩
          · rw [e] at hr; cases hr
          · rw [e] at hr; rw [if_neg h]; exact ih _ old hr
    exact key _ _ _ hr
  rw [headX_hid, this]
  exact hb

section
variable {w0 : World} {M0 : Mod} {R0 : Hp} {n : Nat} {dfs : List Deferred} {bs : Bs} {S : St} {R : Hp} {a : Act} {w : World}
def bsX (bs : Bs) (S' : St) (is : List LI) (j : Nat) : Bd := match rowAt S' j is with
  | some (some id) => bs id
  | some none => ⟨0, ⟨none, 0, 0⟩⟩
  | none => bs j
theorem mask_fits {bs : Bs} {f : Nat → Bool} : ∀ {cs : List LV} {vs : List Value}, FitsL bs cs vs → FitsL bs (cs.map (maskL f)) vs
  | [], [], h => h
  | c :: cs, v :: vs, h => ⟨by unfold maskL; split; exact .inl rfl; exact h.1, mask_fits h.2⟩
  | [], _ :: _, h => h.elim
  | _ :: _, [], h => h.elim
theorem LV.conc_agree {bs bs' : Bs} {x : LV} (h : ∀ id, x.says id = true → bs' id = bs id) : x.conc bs' = x.conc bs := by
  have r : ∀ j, Nat.beq j j = true := fun j => Nat.beq_refl j
  cases x <;> simp only [LV.conc] <;> try rfl
  all_goals first | (rw [h _ (by simp [LV.says])]) | skip
  rename_i f cap
  congr 1
  congr 1
  apply List.map_congr_left
  intro p hp
  rw [h p.1 (by simp only [LV.says, List.any_eq_true]; exact ⟨p, hp, r _⟩)]
theorem LV.fits_agree {bs bs' : Bs} {x : LV} {v : Value} (h : ∀ id, x.says id = true → bs' id = bs id) (hf : x.fits bs v) : x.fits bs' v := hf.imp id fun e => e.trans (LV.conc_agree h).symm
theorem FitsL.agree {bs bs' : Bs} : ∀ {cs : List LV} {vs : List Value}, (∀ c ∈ cs, ∀ id, c.says id = true → bs' id = bs id) → FitsL bs cs vs → FitsL bs' cs vs
  | [], [], _, h => h
  | c :: cs, v :: vs, hs, h => ⟨LV.fits_agree (hs c (by simp)) h.1, FitsL.agree (fun c hc => hs c (by simp [hc])) h.2⟩
  | [], _ :: _, _, h => h.elim
  | _ :: _, [], _, h => h.elim
theorem FitsT.agree {bs bs' : Bs} : ∀ {cs : List (Bool × List LV)} {vs : List Value}, (∀ p ∈ cs, ∀ c ∈ p.2, ∀ id, c.says id = true → bs' id = bs id) → FitsT bs cs vs → FitsT bs' cs vs
  | [], [], _, h => h
  | (true, cs) :: rest, v :: vs, hs, h => ⟨let ⟨us, h1, h2⟩ := h.1; ⟨us, h1.agree (hs (true, cs) (by simp)), h2⟩, FitsT.agree (fun p hp => hs p (by simp [hp])) h.2⟩
  | (false, [x]) :: rest, v :: vs, hs, h => ⟨LV.fits_agree (hs (false, [x]) (by simp) x (by simp)) h.1, FitsT.agree (fun p hp => hs p (by simp [hp])) h.2⟩
  | (false, []) :: rest, v :: vs, _, h => h.1.elim
  | (false, _ :: _ :: _) :: rest, v :: vs, _, h => h.1.elim
  | [], _ :: _, _, h => h.elim
  | (true, _) :: _, [], _, h => h.elim
  | (false, []) :: _, [], _, h => h.elim
  | (false, _ :: _) :: _, [], _, h => h.elim
theorem SV.fits_agree {bs bs' : Bs} {x : SV} {v : Value} (h : ∀ c ∈ x.leaves, ∀ id, c.says id = true → bs' id = bs id) (hf : x.fits bs v) : x.fits bs' v := by
  cases x with
  | l x => exact LV.fits_agree (h x (by simp [SV.leaves])) hf
  | g cs => obtain ⟨us, h1, h2⟩ := hf; exact ⟨us, h1.agree h, h2⟩
  | t cs =>
    obtain ⟨us, h1, h2⟩ := hf
    exact ⟨us, h1.agree fun p hp c hc => h c (by simp only [SV.leaves, List.mem_flatMap]; exact ⟨p, hp, hc⟩), h2⟩
theorem saysP_leaf {f : Nat → Bool} {x : SV} (h : x.saysP f = false) : ∀ c ∈ x.leaves, c.saysP f = false := by
  intro c hc
  cases x with
  | l x => simp only [SV.leaves, List.mem_singleton] at hc; subst hc; exact h
  | g cs =>
    simp only [SV.saysP] at h
    rw [List.any_eq_false] at h
    simpa using h c hc
  | t cs =>
    simp only [SV.saysP] at h
    rw [List.any_eq_false] at h
    simp only [SV.leaves, List.mem_flatMap] at hc
    obtain ⟨p, hp, hc⟩ := hc
    have := h p hp
    simp only [Bool.not_eq_true] at this
    rw [List.any_eq_false] at this
    simpa using this c hc
theorem saysP_id {f : Nat → Bool} {x : LV} (h : x.saysP f = false) {id : Nat} (hs : x.says id = true) : f id = false := by
  cases e : f id with
  | false => rfl
  | true => rw [saysP_of hs e] at h; cases h
end
end Go.KE

/- The engine, part 2I: a loop's head stands for the state: the end. -/
namespace Go.KE
open Go.RowKit (Below)

theorem cellsX_mem {id : Nat} {is : List LI} {x : LTup is} : ∀ {m off : Nat} {c : LV}, c ∈ cellsX id is x off m → ∃ o, c = cellX id o is x
  | 0, _, _, h => by simp [cellsX] at h
  | m + 1, off, c, h => by
    simp only [cellsX, List.mem_cons] at h
    rcases h with rfl | h
    · exact ⟨off, rfl⟩
    · exact cellsX_mem h
theorem cellsX_fits {bs : Bs} {id : Nat} {is : List LI} {x : LTup is} : ∀ (m off : Nat) (vs : List Value), vs.length = m → (∀ o v, vs[o]? = some v → (cellX id (off + o) is x).fits bs v) → FitsL bs (cellsX id is x off m) vs
  | 0, off, [], _, _ => trivial
  | 0, off, _ :: _, h, _ => by simp at h
  | m + 1, off, [], h, _ => by simp at h
  | m + 1, off, v :: vs, h, hf => ⟨by have := hf 0 v rfl; simpa using this, cellsX_fits m (off + 1) vs (by simpa using h) fun o u hu => by
    have := hf (o + 1) u (by simpa using hu)
    rw [show off + 1 + o = off + (o + 1) by omega]
    exact this⟩
section
variable {w0 : World} {M0 : Mod} {R0 : Hp} {n : Nat} {dfs : List Deferred} {bs : Bs} {S S' : St} {R : Hp} {a : Act} {w : World}
theorem Ref.fits {bs : Bs} {x y : SV} (h : Ref x y) {v : Value} (hf : y.fits bs v) : x.fits bs v := by
  rcases h with rfl | ⟨q, rfl, rfl⟩
  · exact hf
  · cases q
    · exact .inr (LV.fits_val (x := .ff) hf (by simp))
    · exact .inr (LV.fits_val (x := .tt) hf (by simp))
theorem den_no {k : Kd} {d : k.Den} {y : LV} (h : y.den k = some d) : y ≠ .no := by
  rintro rfl
  cases k <;> simp [LV.den] at h
theorem head_inv (I : Inv w0 M0 R0 n dfs bs S' R a w) {h : LH} {asg : List Nat} {x : LTup h.items} (H : HeadOk0 S h asg)
    (hG : ∀ t id, (S.env t).says id = true → S.hid id ≠ none) (hGc : ∀ j T cs, S.hid j = some (.cells T cs) → ∀ c ∈ cs, ∀ id, c.says id = true → S.hid id ≠ none)
    (f1 : ∀ t, t ∉ asg → (S.env t).saysP (anewX S h asg) = false → Ref (S.env t) (S'.env t))
    (f2 : ∀ j, j ∉ asg → j ∉ srcs S h.items → blkOf j h.blks = none → isRowOf j h.items = false → (∀ rt xs, S.hid j = some (.row rt xs) → S'.hid j = some (.row rt xs)) ∧ ∀ T cs, S.hid j = some (.cells T cs) → S'.hid j = some (.cells T cs) ∨ S'.hid j = some (.cells T (cs.map (maskL (anewX S h asg)))))
    (f3 : ∀ u T m, blkOf u h.blks = some (T, m) → ∃ cs, S'.hid u = some (.cells T cs) ∧ cs.length = m)
    (f4 : getX S' h.items = some x) (f5 : (srcs S' h.items).Nodup) (f6 : ∀ id ∈ srcs S' h.items, headBase S h asg x id = none ∨ isRowOf id h.items = true) (f7 : ∀ j ∈ rowNums h.items, M0.fx j = none) :
    Inv w0 M0 R0 n dfs (bsX bs S' h.items) (headX S h asg x) R a w := by
  have agree : ∀ id, anewX S h asg id = false → S.hid id ≠ none → bsX bs S' h.items id = bs id ∧ (headX S h asg x).hid id ≠ none := fun id hA hh => by
    obtain ⟨h1, h2⟩ := H.alive x hA hh
    refine ⟨?_, h1⟩
    unfold bsX
    rw [rowAt_isRow.2 h2]
  have rowAlive : ∀ j s, rowAt S' j h.items = some s → (headX S h asg x).hid j ≠ none := fun j s hs => by
    rw [headX_hid]
    rcases rowX_cases (S := S') (headBase S h asg x j) j f4 with ⟨e, _⟩ | ⟨rt, d, e, _⟩
    · rw [e] at hs; cases hs
    · rw [e]; simp
  have cadrRow : ∀ u o, hasHang h.items u o → rowAt S' (crowId u o) h.items = none := fun u o hm => by
    rw [rowAt_isRow]
    cases e : isRowOf (crowId u o) h.items with
    | false => rfl
    | true => exact absurd (okRows_row H.rows e).2.2 (okRows_hang H.rows hm)
  have cadrBs : ∀ u o, hasHang h.items u o → bsX bs S' h.items (crowId u o) = bs (crowId u o) := fun u o hm => by
    unfold bsX
    rw [cadrRow u o hm]
  have cadrAlive : ∀ u o, hasHang h.items u o → (headX S h asg x).hid (crowId u o) ≠ none := fun u o hm => by
    rw [headX_hid]
    rcases rowX_cases (S := S') (headBase S h asg x (crowId u o)) (crowId u o) f4 with ⟨_, e⟩ | ⟨rt, d, e, _⟩
    · rw [e]
      unfold headBase
      cases hb : blkOf (crowId u o) h.blks with
      | none => exact absurd hb (okRows_hang H.rows hm)
      | some p => simp
    · rw [e]; simp
  -- what lies in the slots
  have envc : ∀ t, ((headX S h asg x).env t).fits (bsX bs S' h.items) (a.tmps.getD t undef) ∧ ((headX S h asg x).env t).good (Alive (headX S h asg x)) R := fun t => by
    have hno : (SV.l .no).fits (bsX bs S' h.items) (a.tmps.getD t undef) ∧ (SV.l .no).good (Alive (headX S h asg x)) R := ⟨.inl rfl, good_l (good_of_not (fun _ => rfl) trivial)⟩
    rw [headX_env]
    rcases envX_cases (S := S') (headEnv S h asg t) t H.nums f4 with e | ⟨y, k, d, e1, e2, e3⟩ | ⟨rt, e1, e2⟩
    · rw [e]
      unfold headEnv
      cases hm : memB t asg with
      | true => exact hno
      | false =>
        simp only
        cases hs : (S.env t).saysP (anewX S h asg) with
        | true => exact hno
        | false =>
          simp only
          have et := f1 t (memB_false.1 hm) hs
          have ag : ∀ c ∈ (S.env t).leaves, ∀ id, c.says id = true → anewX S h asg id = false ∧ S.hid id ≠ none := fun c hc id hcs => by
            refine ⟨saysP_id (saysP_leaf hs c hc) hcs, hG t id ?_⟩
            cases he : (S.env t).says id with
            | true => rfl
            | false =>
              exfalso
              revert hc
              cases hv : S.env t with
              | l z =>
                rw [hv] at he
                intro hc
                simp only [SV.leaves, List.mem_singleton] at hc
                subst hc
                simp only [SV.says] at he
                rw [he] at hcs; cases hcs
              | g cs =>
                rw [hv] at he
                intro hc
                simp only [SV.says] at he
                rw [List.any_eq_false] at he
                exact he c hc hcs
              | t cs =>
                rw [hv] at he
                intro hc
                simp only [SV.says] at he
                rw [List.any_eq_false] at he
                simp only [SV.leaves, List.mem_flatMap] at hc
                obtain ⟨p, hp, hc⟩ := hc
                have := he p hp
                rw [Bool.not_eq_true, List.any_eq_false] at this
                exact this c hc hcs
          refine ⟨SV.fits_agree (fun c hc id hcs => (agree id (ag c hc id hcs).1 (ag c hc id hcs).2).1) (et.fits (I.env t)), fun c hc => ⟨fun id hcs => (agree id (ag c hc id hcs).1 (ag c hc id hcs).2).2, ?_⟩⟩
          rcases et with et | ⟨q, et, _⟩
          · exact (I.good t c (by rw [et]; exact hc)).adr
          · rw [et] at hc
            simp only [SV.leaves, List.mem_singleton] at hc
            subst hc
            trivial
    · rw [e3]
      refine ⟨?_, good_l (good_lvs _ _ [k] d _ (by simp [Tup.lvs]))⟩
      have := I.env t
      rw [e1] at this
      have hv := LV.fits_val this (den_no e2)
      refine (show _ ∨ _ from .inr ?_)
      rw [hv, LV.den_conc bs k y d e2, Kd.lv_conc]
    · rw [e1]
      refine ⟨?_, good_l (RT.lv_good ?_)⟩
      · have := I.env t
        refine (show _ ∨ _ from .inr ?_)
        rcases e2 with ⟨e3, e4, T, ks, e5⟩ | ⟨id, e3, e4⟩
        · rw [e3] at this
          rw [LV.fits_val this (by simp), RT.lv_nil e5 (by simp only [bsX, e4])]
          rfl
        · rw [e3] at this
          rw [LV.fits_val this (rt.lv_no id)]
          exact (rt.lv_conc (by simp only [bsX, e4])).symm
      · rcases e2 with ⟨_, e4, _⟩ | ⟨_, _, e4⟩ <;> exact rowAlive _ _ e4
  -- what lies in the blocks
  have blkc : ∀ j y, (headX S h asg x).hid j = some y → (∃ rt d, y = .row rt d ∧ ((rowAt S' j h.items = some none ∧ d = [] ∧ ∃ T ks, rt = .sl T ks) ∨ ∃ id, rowAt S' j h.items = some (some id) ∧ S'.hid id = some (.row rt d))) ∨
      (rowAt S' j h.items = none ∧ j ∉ srcs S' h.items ∧ ∃ y', S'.hid j = some y' ∧ (∀ bs, y.blk bs j = y'.blk bs j) ∧ HBok w (bsX bs S' h.items) j y ∧ ∀ T cs, y = .cells T cs → ∀ c ∈ cs, c.good (Alive (headX S h asg x)) R) := fun j y hj => by
    rw [headX_hid] at hj
    rcases rowX_cases (S := S') (headBase S h asg x j) j f4 with ⟨e1, e2⟩ | ⟨rt, d, e1, e2⟩
    · right
      rw [e2] at hj
      have hr := rowAt_isRow.1 e1
      have hns : j ∉ srcs S' h.items := fun hm => by
        rcases f6 j hm with h1 | h1
        · rw [h1] at hj; cases hj
        · rw [hr] at h1; cases h1
      have hbj : bsX bs S' h.items j = bs j := by unfold bsX; rw [e1]
      refine ⟨e1, hns, ?_⟩
      unfold headBase at hj
      split at hj
      · rename_i T m hb
        obtain rfl := Option.some.inj hj
        obtain ⟨cs, g1, g2⟩ := f3 j T m hb
        obtain ⟨vs, g3, g4⟩ := I.hb j _ g1
        refine ⟨_, g1, fun _ => rfl, ⟨vs, cellsX_fits m 0 vs (by rw [g3.length, g2]) fun o v hv => ?_, by rw [hbj]; exact g4⟩, fun T' cs' e' c hc => ?_⟩
        · rw [Nat.zero_add]
          have at_o : ∀ y, cs[o]? = some y → y.fits bs v := fun y hy => by
            obtain ⟨v', hv', hf⟩ := g3.get o y hy
            rw [hv] at hv'
            cases hv'
            exact hf
          rcases cellX_cases (S := S') j o H.nums f4 with e | ⟨T2, cs2, y, k, d, e3, e4, e5, e6⟩ | ⟨rt, e3, T2, cs2, e4, e5⟩ | ⟨e3, e4, T2, cs2, e5, e6⟩
          · exact .inl e
          · rw [g1] at e3
            obtain ⟨rfl, rfl⟩ : T = T2 ∧ cs = cs2 := by simpa using e3
            right
            rw [e6, LV.fits_val (at_o y e4) (den_no e5), LV.den_conc bs k y d e5, Kd.lv_conc]
          · rw [g1] at e4
            obtain ⟨rfl, rfl⟩ : T = T2 ∧ cs = cs2 := by simpa using e4
            right
            rw [e3]
            rcases e5 with ⟨e5, e6, T3, ks3, e7⟩ | ⟨id', e5, e6⟩
            · rw [LV.fits_val (at_o _ e5) (by simp), RT.lv_nil e7 (by simp only [bsX, e6])]
              rfl
            · rw [LV.fits_val (at_o _ e5) (rt.lv_no id')]
              exact (rt.lv_conc (by simp only [bsX, e6])).symm
          · rw [g1] at e5
            obtain ⟨rfl, rfl⟩ : T = T2 ∧ cs = cs2 := by simpa using e5
            right
            rw [LV.fits_val (at_o _ e6) (LV.hang_no e3)]
            exact (LV.hang_conc e3 (cadrBs _ _ e4)).symm
        · cases e'
          obtain ⟨o, rfl⟩ := cellsX_mem hc
          rcases cellX_cases (S := S') j o H.nums f4 with e | ⟨T2, cs2, y, k, d, e3, e4, e5, e6⟩ | ⟨rt, e3, T2, cs2, e4, e5⟩ | ⟨e3, e4, _⟩
          · rw [e]; exact good_of_not (fun _ => rfl) trivial
          · rw [e6]; exact good_lvs _ _ [k] d _ (by simp [Tup.lvs])
          · rw [e3]
            refine RT.lv_good ?_
            rcases e5 with ⟨_, e6, _⟩ | ⟨_, _, e6⟩ <;> exact rowAlive _ _ e6
          · exact LV.hang_good e3 (cadrAlive _ _ e4)
      · rename_i hb
        split at hj
        · cases hj
        · rename_i hms
          rw [Bool.or_eq_false_iff] at hms
          have g := f2 j (memB_false.1 hms.1) (memB_false.1 hms.2) hb hr
          split at hj
          · rename_i T cs e
            obtain rfl := Option.some.inj hj
            have ag : ∀ c ∈ cs.map (maskL (anewX S h asg)), ∀ id, c.says id = true → anewX S h asg id = false ∧ S.hid id ≠ none := fun c hc id hcs => by
              obtain ⟨c', hc', rfl⟩ := List.mem_map.1 hc
              unfold maskL at hcs
              split at hcs
              · cases hcs
              · rename_i hm
                exact ⟨saysP_id hm hcs, hGc j T cs e c' hc' id hcs⟩
            have fits : ∀ cs', S'.hid j = some (.cells T cs') → (cs' = cs ∨ cs' = cs.map (maskL (anewX S h asg))) → ∃ y', S'.hid j = some y' ∧ (∀ bs, (HB.cells T (cs.map (maskL (anewX S h asg)))).blk bs j = y'.blk bs j) ∧ HBok w (bsX bs S' h.items) j (.cells T (cs.map (maskL (anewX S h asg)))) ∧ ∀ T' cs', HB.cells T (cs.map (maskL (anewX S h asg))) = .cells T' cs' → ∀ c ∈ cs', c.good (Alive (headX S h asg x)) R := fun cs' e' ho => by
              obtain ⟨vs, g3, g4⟩ := I.hb j _ e'
              have hf : FitsL bs (cs.map (maskL (anewX S h asg))) vs := by
                rcases ho with rfl | rfl
                · exact mask_fits g3
                · exact g3
              refine ⟨_, e', fun _ => rfl, ⟨vs, hf.agree fun c hc id hcs => (agree id (ag c hc id hcs).1 (ag c hc id hcs).2).1, by rw [hbj]; exact g4⟩, fun T2 cs2 e2 c hc => ?_⟩
              cases e2
              refine ⟨fun id hcs => (agree id (ag c hc id hcs).1 (ag c hc id hcs).2).2, ?_⟩
              have hc0 := hc
              rcases ho with rfl | rfl
              · obtain ⟨c', hc', rfl⟩ := List.mem_map.1 hc
                unfold maskL
                split
                · trivial
                · exact (I.goodc j T _ e' c' hc').adr
              · exact (I.goodc j T _ e' c hc0).adr
            rcases g.2 T cs e with e' | e'
            · exact fits cs e' (.inl rfl)
            · exact fits _ e' (.inr rfl)
          · rename_i y0 hnc e
            rw [hr] at hj
            simp only at hj
            obtain rfl := Option.some.inj hj
            cases y0 with
            | cells T cs => exact absurd rfl (hnc T cs)
            | row rt xs =>
              have e' := g.1 rt xs e
              refine ⟨_, e', fun _ => rfl, ?_, fun T' cs' e2 => by cases e2⟩
              have := I.hb j _ e'
              cases rt with
              | sl T ks => unfold HBok at this ⊢; simp only at this ⊢; rw [hbj]; exact this
              | mp ks => unfold HBok at this ⊢; simp only at this ⊢; rw [hbj]; exact this
          · cases hj
    · left
      rw [e1] at hj
      obtain rfl := Option.some.inj hj
      exact ⟨rt, d, rfl, e2⟩
  have phys : ∀ j y b, (headX S h asg x).hid j = some y → y.blk (bsX bs S' h.items) j = some b → ∃ id y', S'.hid id = some y' ∧ y'.blk bs id = some b ∧ ((rowAt S' j h.items = some (some id)) ∨ (rowAt S' j h.items = none ∧ id = j ∧ j ∉ srcs S' h.items)) := fun j y b hj hb => by
    rcases blkc j y hj with ⟨rt, d, rfl, ⟨e1, rfl, T, ks, rfl⟩ | ⟨id, e1, e2⟩⟩ | ⟨e1, e2, y', e3, e4, _⟩
    · simp [HB.blk, bsX, e1] at hb
    · refine ⟨id, _, e2, ?_, .inl e1⟩
      cases rt <;> simpa [HB.blk, bsX, e1] using hb
    · refine ⟨j, y', e3, ?_, .inr ⟨e1, rfl, e2⟩⟩
      have hbj : bsX bs S' h.items j = bs j := by unfold bsX; rw [e1]
      rw [← e4, ← HB.blk_congr y hbj]
      exact hb
  exact { I with
    env := fun t => (envc t).1
    hb := fun j y hj => by
      rcases blkc j y hj with ⟨rt, d, rfl, ⟨e1, rfl, T, ks, rfl⟩ | ⟨id, e1, e2⟩⟩ | ⟨_, _, _, _, _, h5, _⟩
      · exact .inl ⟨by simp only [bsX, e1], rfl⟩
      · have := I.hb id _ e2
        cases rt with
        | sl T ks => unfold HBok at this ⊢; simp only [bsX, e1] at this ⊢; exact this
        | mp ks => unfold HBok at this ⊢; simp only [bsX, e1] at this ⊢; exact this
      · exact h5
    sep := fun j y b hj hb => by
      obtain ⟨id, y', e1, e2, _⟩ := phys j y b hj hb
      exact I.sep id y' b e1 e2
    dis := fun i j y y' b hij hi hj hbi hbj => by
      obtain ⟨id, z, e1, e2, e3⟩ := phys i y b hi hbi
      obtain ⟨id', z', e1', e2', e3'⟩ := phys j y' b hj hbj
      have hne : id ≠ id' := by
        rintro rfl
        rcases e3 with e3 | ⟨e3, rfl, e4⟩ <;> rcases e3' with e3' | ⟨e3', rfl, e4'⟩
        · exact hij (rowAt_inj f5 e3 e3')
        · exact e4' (rowAt_srcs e3)
        · exact e4 (rowAt_srcs e3')
        · exact hij rfl
      exact I.dis id id' z z' b hne e1 e1' e2 e2'
    good := fun t => (envc t).2
    goodc := fun j T cs hj c hc => by
      rcases blkc j _ hj with ⟨rt, d, e, _⟩ | ⟨_, _, _, _, _, _, h6⟩
      · cases e
      · exact h6 T cs rfl c hc
    fix := fun j b hj => by
      obtain ⟨h1, h3⟩ := I.fix j b hj
      refine ⟨h1, ?_⟩
      unfold bsX
      cases e : rowAt S' j h.items with
      | none => exact h3
      | some s =>
        rw [f7 j (rowAt_nums e)] at hj
        cases hj }
end
end Go.KE

/- The engine, part 2J: code. -/
namespace Go.KE
open Go.RowKit (Below)

theorem src_says {S : St} {t : Nat} {rt : RT} {P : Nat → Bool} {id : Nat} (h : LI.src S (.row t rt) = some id) (hp : P id = true) : (S.env t).saysP P = true := by
  simp only [LI.src] at h
  split at h
  · rename_i y e
    split at h
    · rename_i id' e2
      cases h
      rw [e, rowSrc_some e2]
      cases rt <;> exact hp
    · cases h
  · cases h
theorem envX_out {S : St} {h : LH} {asg : List Nat} {t : Nat} {P : Nat → Bool} (ht : t ∉ asg) (hs : (S.env t).saysP P = false) : ∀ {is : List LI} {x : LTup is} (old : SV), okRows S h asg is = true → (∀ id ∈ srcs S is, P id = true) → envX old t is x = old
  | [], _, _, _, _ => rfl
  | .tmp u k :: is, x, old, ho, hp => by
    simp only [okRows] at ho
    split at ho
    · rename_i hm
      rw [envX_tmp, if_neg (fun e => ht (by rw [← e]; exact memB_iff.1 hm))]
      exact envX_out ht hs old ho fun id hid => hp id (srcs_tail hid)
    · cases ho
  | .cell u o k :: is, x, old, ho, hp => by rw [envX_cell]; exact envX_out ht hs (is := is) old ho fun id hid => hp id (srcs_tail hid)
  | .cadr u o :: is, x, old, ho, hp => by
    simp only [okRows] at ho
    split at ho
    · rw [envX_cadr]
      exact envX_out ht hs (is := is) old ho fun id hid => hp id (srcs_tail hid)
    · cases ho
  | .cfn u o f :: is, x, old, ho, hp => by
    simp only [okRows] at ho
    split at ho
    · rw [envX_cfn]
      exact envX_out ht hs (is := is) old ho fun id hid => hp id (srcs_tail hid)
    · cases ho
  | .row u rt :: is, x, old, ho, hp => by
    simp only [okRows] at ho
    split at ho
    · rename_i hm
      simp only [Bool.and_eq_true, Bool.or_eq_true] at hm
      rw [envX_row, if_neg (fun e => by
        rcases hm.1.1.1 with h1 | h1
        · exact ht (by rw [← e]; exact memB_iff.1 h1)
        · unfold hasSrc at h1
          split at h1
          · rename_i id e2
            subst e
            rw [src_says e2 (hp id (srcs_head e2))] at hs
            cases hs
          · cases h1)]
      exact envX_out ht hs old ho fun id hid => hp id (srcs_tail hid)
    · cases ho
  | .crow u o rt :: is, x, old, ho, hp => by
    simp only [okRows] at ho
    split at ho
    · rw [envX_crow]
      exact envX_out ht hs old ho fun id hid => hp id (srcs_tail hid)
    · cases ho
theorem rowX_out {j : Nat} : ∀ (is : List LI) (x : LTup is) (old : Option HB), isRowOf j is = false → rowX old j is x = old := by
  intro is
  induction is with
  | nil => intro x old _; rfl
  | cons i is ih =>
    intro x old hr
    cases i with
    | tmp u k => rw [rowX_tmp]; exact ih _ old hr
    | cell u o k => rw [rowX_cell]; exact ih _ old hr
    | cadr u o => rw [rowX_cadr]; exact ih _ old hr
    | cfn u o f => rw [rowX_cfn]; exact ih _ old hr
    | row u rt =>
      simp only [isRowOf] at hr
      rw [rowX_row]
      rcases beq_cases u j with ⟨e, h⟩ | ⟨e, h⟩
      · rw [e] at hr; cases hr
      · rw [e] at hr; rw [if_neg h]; exact ih _ old hr
    | crow u o rt =>
      simp only [isRowOf] at hr
      rw [rowX_crow]
      rcases beq_cases (crowId u o) j with ⟨e, h⟩ | ⟨e, h⟩
      · rw [e] at hr; cases hr
      · rw [e] at hr; rw [if_neg h]; exact ih _ old hr
/-- A source is a row. -/
theorem srcs_row {S : St} {id : Nat} : ∀ {is : List LI} {x : LTup is}, getX S is = some x → id ∈ srcs S is → ∃ rt d, S.hid id = some (.row rt d)
  | [], _, _, h => by simp [srcs] at h
  | i :: is, x, hx, h => by
    obtain ⟨h1, h2⟩ := getX_cons hx
    rw [srcs_cons] at h
    cases i with
    | tmp u k => exact srcs_row h2 h
    | cell u o k => exact srcs_row h2 h
    | cadr u o => exact srcs_row h2 h
    | cfn u o f => exact srcs_row h2 h
    | row u rt =>
      rcases get_row h1 with ⟨_, _, e3, _⟩ | ⟨id', _, e2, e3⟩
      · rw [e3] at h; exact srcs_row h2 h
      · rw [e3] at h
        rcases List.mem_cons.1 h with rfl | h
        · exact ⟨_, _, e2⟩
        · exact srcs_row h2 h
    | crow u o rt =>
      obtain ⟨T', cs, e0, ⟨_, _, e3, _⟩ | ⟨id', _, e2, e3⟩⟩ := get_crow h1
      · rw [e3] at h; exact srcs_row h2 h
      · rw [e3] at h
        rcases List.mem_cons.1 h with rfl | h
        · exact ⟨_, _, e2⟩
        · exact srcs_row h2 h
theorem saysP_le {f g : Nat → Bool} (hfg : ∀ j, f j = true → g j = true) {x : LV} (h : x.saysP g = false) : x.saysP f = false := by
  cases x <;> simp only [LV.saysP] at h ⊢ <;> first
    | rfl
    | (rename_i f' cap
       rw [List.any_eq_false] at h ⊢
       intro p hp e
       exact h p hp (hfg _ e))
    | (rename_i a
       cases e : f a with
       | false => rfl
       | true => rw [hfg _ e] at h; cases h)
    | (rename_i a _
       cases e : f a with
       | false => rfl
       | true => rw [hfg _ e] at h; cases h)
    | (rename_i a _ _ _
       cases e : f a with
       | false => rfl
       | true => rw [hfg _ e] at h; cases h)
theorem saysPL_le {f g : Nat → Bool} (hfg : ∀ j, f j = true → g j = true) {cs : List LV} (h : cs.any (LV.saysP g) = false) : cs.any (LV.saysP f) = false := by
  rw [List.any_eq_false] at h ⊢
  intro x hx
  rw [saysP_le hfg (by simpa using h x hx)]
  simp
theorem saysPS_le {f g : Nat → Bool} (hfg : ∀ j, f j = true → g j = true) {x : SV} (h : x.saysP g = false) : x.saysP f = false := by
  cases x with
  | l x => exact saysP_le hfg h
  | g cs => exact saysPL_le hfg h
  | t cs =>
    simp only [SV.saysP] at h ⊢
    rw [List.any_eq_false] at h ⊢
    intro p hp
    have := saysPL_le hfg (by simpa using h p hp)
    simp [this]
theorem mask_id {f : Nat → Bool} {cs : List LV} (h : cs.any (LV.saysP f) = false) : cs.map (maskL f) = cs := by
  rw [List.any_eq_false] at h
  conv => rhs; rw [← List.map_id cs]
  exact List.map_congr_left fun x hx => by
    have e := h x hx
    rw [Bool.not_eq_true] at e
    unfold maskL
    rw [e]
    rfl
theorem mask_says (f : Nat → Bool) (cs : List LV) : (cs.map (maskL f)).any (LV.saysP f) = false := by
  rw [List.any_eq_false]
  intro x hx
  obtain ⟨c, _, rfl⟩ := List.mem_map.1 hx
  unfold maskL
  split
  · simp [LV.saysP]
  · rename_i e; rw [e]; simp
/-- From a loop's head to its round's end, told from the loop's beginning. -/
theorem head_fr {S S' : St} {h : LH} {asg : List Nat} {x : LTup h.items} (H : HeadOk S h asg) (F : Fr asg (headX S h asg x) S') : Fr asg S (S'.back S) := by
  have hA : ∀ j, anewX S h asg j = true → S.anew j = true := fun j => anewX_le
  have out : ∀ j, j ∉ asg → S.own j = false → ∀ y, S.hid j = some y → isRowOf j h.items = false ∧ blkOf j h.blks = none ∧ j ∉ srcs S h.items := fun j hj ho y hy => by
    refine ⟨?_, ?_, fun hm => ?_⟩
    · cases e : isRowOf j h.items with
      | false => rfl
      | true => rw [(okRows_row H.rows e).1] at ho; cases ho
    · cases e : blkOf j h.blks with
      | none => rfl
      | some p => rw [(okBlks_iff (T := p.1) (n := p.2) H.blks e).1] at ho; cases ho
    · rw [((okSrcs_iff H.srcs).2 j hm).1] at ho; cases ho
  have own : ∀ j, S.own j = false → blkOf j h.blks = none → (headX S h asg x).own j = false := fun j ho hb => by
    show (match blkOf j h.blks with | some _ => true | none => anewX S h asg j && S.own j) = false
    rw [hb, ho]
    simp
  refine ⟨rfl, rfl, fun t ht hs => ?_, fun j hj ho rt xs e => ?_, fun j hj ho T cs e hs => ?_⟩
  · have hs' := saysPS_le hA hs
    have e : (headX S h asg x).env t = S.env t := by
      rw [headX_env, envX_out ht hs _ H.rows fun id hid => ((okSrcs_iff H.srcs).2 id hid).2]
      unfold headEnv
      rw [memB_false.2 ht, hs']
    have := F.env t ht (by rw [e]; exact hs')
    rw [e] at this
    exact this
  · obtain ⟨o1, o2, o3⟩ := out j hj ho _ e
    have e' : (headX S h asg x).hid j = some (.row rt xs) := by
      rw [headX_hid, rowX_out _ _ _ o1]
      unfold headBase
      rw [o2, memB_false.2 hj, memB_false.2 o3]
      simp only [Bool.or_self]
      rw [e, o1]
    have := F.row j hj (own j ho o2) rt xs e'
    show S'.hid j = S.hid j
    rw [this, e', e]
  · obtain ⟨o1, o2, o3⟩ := out j hj ho _ e
    have hs' := saysPL_le hA hs
    have e' : (headX S h asg x).hid j = some (.cells T cs) := by
      rw [headX_hid, rowX_out _ _ _ o1]
      unfold headBase
      rw [o2, memB_false.2 hj, memB_false.2 o3]
      simp only [Bool.or_self]
      rw [e]
      simp only
      rw [mask_id hs']
    have := F.cells j hj (own j ho o2) T cs e' hs'
    show S'.hid j = S.hid j
    rw [this, e', e]

section
variable {w0 : World} {M0 : Mod} {R0 : Hp} {n : Nat} {dfs : List Deferred} {bs : Bs} {S S' : St} {R : Hp} {a : Act} {w : World}
theorem Inv.back (I : Inv w0 M0 R0 n dfs bs S' R a w) (S : St) : Inv w0 M0 R0 n dfs bs (S'.back S) R a w :=
  ⟨I.size, I.dfs, I.env, I.hb, I.sep, I.dis, I.good, I.goodc, I.sees, I.le, I.new, I.wf, I.fix⟩
/-- At the loop's beginning. -/
theorem head_first (I : Inv w0 M0 R0 n dfs bs S R a w) {h : LH} {asg : List Nat} {x : LTup h.items} (H : HeadOk S h asg) (f7 : ∀ j ∈ rowNums h.items, M0.fx j = none) (hx : getX S h.items = some x) : ∃ bs', Inv w0 M0 R0 n dfs bs' (headX S h asg x) R a w :=
  ⟨_, head_inv I H.toHeadOk0 (fun t id hs => (I.good t).says hs) (fun j T cs hj c hc id hs => (I.goodc j T cs hj c hc).live id hs) (fun _ _ _ => .inl rfl) (fun j _ _ _ _ => ⟨fun _ _ e => e, fun _ _ e => .inl e⟩)
    (fun u T m hb => (okBlks_iff H.blks hb).2.2) hx (okSrcs_iff H.srcs).1 (fun id hid => by
      left
      obtain ⟨rt, d, e⟩ := srcs_row hx hid
      unfold headBase
      cases hb : blkOf id h.blks with
      | some p =>
        obtain ⟨cs, e2, _⟩ := (okBlks_iff (T := p.1) (n := p.2) H.blks hb).2.2
        rw [e] at e2; cases e2
      | none =>
        simp only
        rw [memB_iff.2 hid]
        simp) f7⟩
/-- At a round's end. -/
theorem head_next (I : Inv w0 M0 R0 n dfs bs S' R a w) {h : LH} {asg : List Nat} {x x' : LTup h.items} (H : HeadOk S h asg) (f7 : ∀ j ∈ rowNums h.items, M0.fx j = none) (F : Fr asg (headX S h asg x) S') (hG : ∀ t id, (S.env t).says id = true → S.hid id ≠ none) (hGc : ∀ j T cs, S.hid j = some (.cells T cs) → ∀ c ∈ cs, ∀ id, c.says id = true → S.hid id ≠ none)
    (he : okEnd S' h.blks = true) (hs : okSrcs S' (srcs S' h.items) = true) (hx : getX S' h.items = some x') : ∃ bs', Inv w0 M0 R0 n dfs bs' (headX S h asg x') R a w := by
  have hA : S'.anew = anewX S h asg := F.anew
  refine ⟨_, head_inv I H.toHeadOk0 hG hGc (fun t ht hs => ?_) (fun j hj hjs hb hr => ?_) (fun u T m hb => okEnd_iff he hb) hx (okSrcs_iff hs).1 (fun id hid => ?_) f7⟩
  · have e : (headX S h asg x).env t = S.env t := by
      rw [headX_env, envX_out ht hs _ H.rows fun id hid => anewX_mem ((okSrcs_iff H.srcs).2 id hid).2 (.inr hid)]
      unfold headEnv
      rw [memB_false.2 ht, hs]
    have := F.env t ht (by rw [e]; exact hs)
    rw [e] at this
    exact this
  · have base : (headX S h asg x).hid j = headBase S h asg x j := by rw [headX_hid, rowX_out _ _ _ hr]
    have own : S.hid j ≠ none → (headX S h asg x).own j = false := fun hn => by
      show (match blkOf j h.blks with | some _ => true | none => anewX S h asg j && S.own j) = false
      rw [hb, anewX_false hr hj hjs hn]
      rfl
    constructor
    · intro rt xs e
      have e' : (headX S h asg x).hid j = some (.row rt xs) := by
        rw [base]
        unfold headBase
        rw [hb, memB_false.2 hj, memB_false.2 hjs]
        simp only [Bool.or_self]
        rw [e, hr]
      rw [F.row j hj (own (by rw [e]; simp)) rt xs e', e']
    · intro T cs e
      right
      have e' : (headX S h asg x).hid j = some (.cells T (cs.map (maskL (anewX S h asg)))) := by
        rw [base]
        unfold headBase
        rw [hb, memB_false.2 hj, memB_false.2 hjs]
        simp only [Bool.or_self]
        rw [e]
      rw [F.cells j hj (own (by rw [e]; simp)) T _ e' (mask_says _ cs), e']
  · have h1 := ((okSrcs_iff hs).2 id hid).2
    rw [hA] at h1
    cases hr : isRowOf id h.items with
    | true => exact .inr rfl
    | false =>
      left
      obtain ⟨rt, d, e⟩ := srcs_row hx hid
      unfold headBase
      cases hb : blkOf id h.blks with
      | some p =>
        obtain ⟨cs, e2, _⟩ := okEnd_iff (T := p.1) (n := p.2) he hb
        rw [e] at e2; cases e2
      | none =>
        simp only
        cases hm : (memB id asg || memB id (srcs S h.items)) with
        | true => rfl
        | false =>
          simp only
          rw [Bool.or_eq_false_iff] at hm
          cases hh : S.hid id with
          | none => rfl
          | some y =>
            have := anewX_false hr (memB_false.1 hm.1) (memB_false.1 hm.2) (by rw [hh]; simp)
            rw [this] at h1
            cases h1
end
end Go.KE

/- The engine, part 2K: code, all of it. -/
namespace Go.KE
open Go.RowKit (Below)

section
variable {w0 : World} {M0 : Mod} {R0 : Hp} {n : Nat} {dfs : List Deferred} {bs : Bs} {S S' : St} {R : Hp} {a : Act} {w : World}
theorem With.trans {asg : List Nat} {S S1 : St} {R R1 : Hp} (F : Fr asg S S1) (l : R.le R1) {K : St → Hp → Prop} {S2 : St} {R2 : Hp} (h : With asg S1 R1 K S2 R2) : With asg S R K S2 R2 := ⟨h.1, F.trans h.2.1, l.trans h.2.2⟩
theorem With.wide {asg asg' : List Nat} (hs : ∀ d ∈ asg, d ∈ asg') {S : St} {R : Hp} {K : St → Hp → Prop} {S2 : St} {R2 : Hp} (h : With asg S R K S2 R2) : With asg' S R K S2 R2 := ⟨h.1, h.2.1.mono hs, h.2.2⟩
theorem QK.trans {asg asg' : List Nat} (hs : ∀ d ∈ asg', d ∈ asg) {S S1 : St} {R R1 : Hp} (F : Fr asg S S1) (l : R.le R1) {K : Exit → St → Hp → Prop} {e : Exit} {a : Act} {w : World} (h : QK w0 M0 R0 n dfs asg' S1 R1 K e a w) : QK w0 M0 R0 n dfs asg S R K e a w := by
  cases e with
  | panic ch => obtain ⟨bs, S2, R2, S3, J, h1, h2⟩ := h; exact ⟨bs, S2, R2, S3, J, h1, l.trans h2⟩
  | outgrown => exact h
  | normal => obtain ⟨bs, S2, R2, J, h1⟩ := h; exact ⟨bs, S2, R2, J, (h1.wide hs).trans F l⟩
  | exit i => obtain ⟨bs, S2, R2, J, h1⟩ := h; exact ⟨bs, S2, R2, J, (h1.wide hs).trans F l⟩
  | goto i => obtain ⟨bs, S2, R2, J, h1⟩ := h; exact ⟨bs, S2, R2, J, (h1.wide hs).trans F l⟩
  | ret => obtain ⟨bs, S2, R2, J, h1⟩ := h; exact ⟨bs, S2, R2, J, (h1.wide hs).trans F l⟩
theorem Inv.truth (I : Inv w0 M0 R0 n dfs bs S R a w) {t : Nat} {x : LV} {v : Bool} (h : S.env t = .l x) (hx : x ≠ .no) (hv : x.conc bs = .bool v) : a.eval (.tmp t) = .bool v := by
  have := I.env t
  rw [h] at this
  exact (LV.fits_val this hx).trans hv
theorem evC_sound {cx : Cx} (hm : cx.P.follows .mixedOrders = true) (hT : TblOk cx.P cx.tbl) (HX : XSnd cx w0 M0 R0 n dfs) (hcn : cx.n = n) (hfx : ∀ j b, M0.fx j = some b → j ∈ cx.fx) : ∀ (c : Code) {K : Exit → St → Hp → Prop} {bs : Bs} {S : St} {R : Hp} {a : Act} {w : World}, Inv w0 M0 R0 n dfs bs S R a w → evC cx c K S R → c.wp cx.P (QK w0 M0 R0 n dfs (assigned c) S R K) a w := by
  intro c
  induction c with
  | skip => intro K bs S R a w I h; exact wp_skip ⟨bs, S, R, I, h, Fr.refl _ S, Hp.le.refl R⟩
  | exit id => intro K bs S R a w I h; exact wp_exit ⟨bs, S, R, I, h, Fr.refl _ S, Hp.le.refl R⟩
  | ret => intro K bs S R a w I h; exact wp_ret ⟨bs, S, R, I, h, Fr.refl _ S, Hp.le.refl R⟩
  | region id ops draw => intro K bs S R a w I h; exact region_sound hm hT HX hcn I h
  | goto l => intro K bs S R a w I h; exact h.elim
  | label l => intro K bs S R a w I h; exact h.elim
  | refuse l => intro K bs S R a w I h; exact h.elim
  | scope b _ => intro K bs S R a w I h; exact h.elim
  | rangeFunc f ps x y _ _ => intro K bs S R a w I h; exact h.elim
  | seq x y ihx ihy =>
    intro K bs S R a w I h
    simp only [evC] at h
    have wa : ∀ d ∈ assigned x, d ∈ assigned (.seq x y) := fun d hd => by simp only [assigned, List.mem_append]; exact .inl hd
    have wb : ∀ d ∈ assigned y, d ∈ assigned (.seq x y) := fun d hd => by simp only [assigned, List.mem_append]; exact .inr hd
    refine wp_seq (wp_mono (ihx I h) fun e a1 w1 hq => ?_)
    cases e with
    | normal =>
      obtain ⟨bs1, S1, R1, J, h1, F, l⟩ := hq
      exact wp_mono (ihy J h1) fun e2 a2 w2 hq2 => QK.trans wb (F.mono wa) l hq2
    | exit i => obtain ⟨bs1, S1, R1, J, h1⟩ := hq; exact ⟨bs1, S1, R1, J, h1.wide wa⟩
    | ret => obtain ⟨bs1, S1, R1, J, h1⟩ := hq; exact ⟨bs1, S1, R1, J, h1.wide wa⟩
    | panic ch => exact hq
    | goto l => obtain ⟨bs1, S1, R1, J, h1, _⟩ := hq; exact h1.elim
    | outgrown => exact hq
  | cond c x y ihx ihy =>
    intro K bs S R a w I h
    have wa : ∀ d ∈ assigned x, d ∈ assigned (.cond c x y) := fun d hd => by simp only [assigned, List.mem_append]; exact .inl hd
    have wb : ∀ d ∈ assigned y, d ∈ assigned (.cond c x y) := fun d hd => by simp only [assigned, List.mem_append]; exact .inr hd
    simp only [evC] at h
    split at h
    · rename_i t
      split at h
      · rename_i e
        exact wp_cond_true (I.truth e (by simp) rfl) (wp_mono (ihx I h) fun e2 a2 w2 hq => QK.trans wa (Fr.refl _ S) (Hp.le.refl R) hq)
      · rename_i e
        exact wp_cond_false (I.truth e (by simp) rfl) (wp_mono (ihy I h) fun e2 a2 w2 hq => QK.trans wb (Fr.refl _ S) (Hp.le.refl R) hq)
      · rename_i q e
        have J := I.lit e
        have F := Fr.litB (asg := assigned (.cond (.tmp t) x y)) S e
        cases q with
        | true => exact wp_cond_true (I.truth e (by simp) rfl) (wp_mono (ihx J (h.1 rfl)) fun e2 a2 w2 hq => QK.trans wa F (Hp.le.refl R) hq)
        | false => exact wp_cond_false (I.truth e (by simp) rfl) (wp_mono (ihy J (h.2 rfl)) fun e2 a2 w2 hq => QK.trans wb F (Hp.le.refl R) hq)
      · exact h.elim
    · exact wp_cond_true rfl (wp_mono (ihx I h) fun e2 a2 w2 hq => QK.trans wa (Fr.refl _ S) (Hp.le.refl R) hq)
    · exact wp_cond_false rfl (wp_mono (ihy I h) fun e2 a2 w2 hq => QK.trans wb (Fr.refl _ S) (Hp.le.refl R) hq)
    · exact h.elim
  | block id b ih =>
    intro K bs S R a w I h
    simp only [evC] at h
    refine wp_block (wp_mono (ih I h) fun e a1 w1 hq => ?_)
    cases e with
    | normal => exact hq
    | ret => exact hq
    | panic ch => exact hq
    | goto l => obtain ⟨bs1, S1, R1, J, h1, _⟩ := hq; exact h1.elim
    | outgrown => exact hq
    | exit i =>
      obtain ⟨bs1, S1, R1, J, h1, F, l⟩ := hq
      show if i = id then _ else _
      rcases beq_cases i id with ⟨e, rfl⟩ | ⟨e, hne⟩
      · rw [if_pos rfl]
        simp only at h1
        rw [e] at h1
        exact ⟨bs1, S1, R1, J, h1, F, l⟩
      · rw [if_neg hne]
        simp only at h1
        rw [e] at h1
        exact ⟨bs1, S1, R1, J, h1, F, l⟩
  | loop b ih =>
    intro K bs S R a w I h
    simp only [evC] at h
    split at h
    · exact h.elim
    · rename_i hd _
      split at h
      · exact h.elim
      · rename_i hc
        simp only [Bool.and_eq_true] at hc
        have H : HeadOk S hd (assigned b) := by
          refine ⟨⟨hc.1.1.1.1.2, hc.1.1.1.2, ?_, hc.1.2⟩, hc.1.1.1.1.1⟩
          have hnd : ∀ l : List Nat, nodupB l = true → l.Nodup := by
            intro l
            induction l with
            | nil => intro _; exact List.nodup_nil
            | cons x xs ih =>
              intro h
              simp only [nodupB] at h
              split at h
              · cases h
              · rename_i hm
                exact List.nodup_cons.2 ⟨memB_false.1 hm, ih h⟩
          exact hnd _ hc.1.1.2
        have f7 : ∀ j ∈ rowNums hd.items, M0.fx j = none := fun j hj => by
          have := allB_iff.1 hc.2 j hj
          simp only [Bool.not_eq_true'] at this
          cases e : M0.fx j with
          | none => rfl
          | some b => exact absurd (hfx j b e) (memB_false.1 this)
        have hG : ∀ t id, (S.env t).says id = true → S.hid id ≠ none := fun t id hs => (I.good t).says hs
        have hGc : ∀ j T cs, S.hid j = some (.cells T cs) → ∀ c ∈ cs, ∀ id, c.says id = true → S.hid id ≠ none := fun j T cs hj c hc id hs => (I.goodc j T cs hj c hc).live id hs
        split at h
        · exact h.elim
        · rename_i x0 hx0
          obtain ⟨L, ⟨k0, hk0⟩, hround⟩ := h
          obtain ⟨bs0, I0⟩ := head_first I H f7 hx0
          refine wp_loop_ghost (fun k a w => ∃ bs x R', R.le R' ∧ L k x R' ∧ Inv w0 M0 R0 n dfs bs (headX S hd (assigned b) x) R' a w) k0 ⟨bs0, x0, R, Hp.le.refl R, hk0, I0⟩ ?_
          rintro k a1 w1 ⟨bs1, x, R1, l1, hL, I1⟩
          refine wp_mono (ih I1 (hround k x R1 l1 hL)) fun e a2 w2 hq => ?_
          cases e with
          | normal =>
            obtain ⟨bs2, S2, R2, J, h1, F, l2⟩ := hq
            simp only at h1
            split at h1
            · rename_i hc2
              rw [Bool.and_eq_true] at hc2
              split at h1
              · rename_i x' hx'
                obtain ⟨k', hk', hL'⟩ := h1
                obtain ⟨bs3, I3⟩ := head_next J H f7 F hG hGc hc2.1 hc2.2 hx'
                exact ⟨k', hk', bs3, x', R2, l1.trans l2, hL', I3⟩
              · exact h1.elim
            · exact h1.elim
          | exit i =>
            obtain ⟨bs2, S2, R2, J, h1, F, l2⟩ := hq
            exact ⟨bs2, _, R2, J.back S, h1, head_fr H F, l1.trans l2⟩
          | ret =>
            obtain ⟨bs2, S2, R2, J, h1, F, l2⟩ := hq
            exact ⟨bs2, _, R2, J.back S, h1, head_fr H F, l1.trans l2⟩
          | panic ch =>
            obtain ⟨bs2, S2, R2, S3, J, h1, l2⟩ := hq
            exact ⟨bs2, S2, R2, _, J, h1, l1.trans l2⟩
          | goto l => obtain ⟨bs2, S2, R2, J, h1, _⟩ := hq; exact h1.elim
          | outgrown => exact hq
end
end Go.KE

/- The engine, part 2L: a function's body; what it hands back. -/
namespace Go.KE
open Go.RowKit (Below)

/-- A value that is told whole is right everywhere. -/
theorem pure_arg {x : SV} {v : Value} {A : Nat → Prop} {R : Hp} {bs : Bs} (h : x.pure = some v) (hn : ∀ c ∈ x.leaves, c.adrOk R) : x.fits bs v ∧ x.good A R := by
  have hL : ∀ {cs : List LV} {vs : List Value}, pureL cs = some vs → FitsL bs cs vs ∧ ∀ c ∈ cs, ∀ id, c.says id = false := by
    intro cs
    induction cs with
    | nil => intro vs h; simp only [pureL, Option.some.injEq] at h; subst h; exact ⟨trivial, fun c hc => by simp at hc⟩
    | cons c cs ih =>
      intro vs h
      simp only [pureL] at h
      split at h
      · rename_i v us h1 h2
        obtain rfl := Option.some.inj h
        obtain ⟨i1, i2⟩ := ih h2
        refine ⟨⟨.inr (pure_conc bs c v h1).symm, i1⟩, fun d hd => ?_⟩
        rcases List.mem_cons.1 hd with rfl | hd
        · exact pure_says h1
        · exact i2 d hd
      · cases h
  cases x with
  | l x => exact ⟨.inr (pure_conc bs x v h).symm, good_l (good_of_not (pure_says h) (hn x (by simp [SV.leaves])))⟩
  | g cs =>
    simp only [SV.pure] at h
    split at h
    · rename_i vs h1
      obtain rfl := Option.some.inj h
      exact ⟨⟨vs, (hL h1).1, rfl⟩, fun c hc => good_of_not ((hL h1).2 c hc) (hn c hc)⟩
    · cases h
  | t cs => simp [SV.pure] at h

section
variable {w0 : World} {M0 : Mod} {R0 : Hp} {n : Nat} {dfs : List Deferred} {bs : Bs} {S S' : St} {R : Hp} {a : Act} {w : World}
theorem frzRet_sound : ∀ (m : Nat) (rs : List ResultVar) {S : St} {R : Hp} (_ : Inv w0 M0 R0 n dfs bs S R a w) {K : St → Hp → Prop} (_ : frzRet m rs S R K), ∃ S' R', Inv w0 M0 R0 n dfs bs S' R' a w ∧ R.le R' ∧ K S' R'
  | 0, rs, S, R, I, K, h => ⟨S, R, I, Hp.le.refl R, h⟩
  | m + 1, rs, S, R, I, K, h => by
    simp only [frzRet] at h
    split at h
    · exact ⟨S, R, I, Hp.le.refl R, h⟩
    · obtain ⟨S1, R1, I1, l1, h1⟩ := I.frz1 h
      obtain ⟨S2, R2, I2, l2, h2⟩ := frzRet_sound m rs I1 h1
      exact ⟨S2, R2, I2, l1.trans l2, h2⟩
def resOne (tmps : Array Value) : ResultVar → Sem Value
  | .tmp t => pure (tmps.getD t undef)
  | .cell a t => do loadVar t (← asAddr (tmps.getD a undef))
theorem retVs_sound (I : Inv w0 M0 R0 n dfs bs S R a w) {P : Program} {tbl : TypeId → Option TI} (hT : TblOk P tbl) : ∀ (rs : List ResultVar) {K : List Value → Prop}, retVs S R tbl rs K → ∃ vs, (rs.mapM (resOne a.tmps)).run P w = .ok vs w ∧ K vs
  | [], K, h => ⟨[], rfl, h⟩
  | .tmp t :: rs, K, h => by
    simp only [retVs] at h
    split at h
    · rename_i v hv
      obtain ⟨vs, h1, h2⟩ := retVs_sound I hT rs h
      refine ⟨v :: vs, ?_, h2⟩
      have := pureS_fits hv (I.env t)
      rw [List.mapM_cons]
      simp only [resOne, this, Sem.run_bind, Sem.run_pure, Result.andThen_ok, h1]
    · exact h.elim
  | .cell t T :: rs, K, h => by
    simp only [retVs] at h
    split at h
    · rename_i ti hti
      have hTT := hT T ti hti
      obtain ⟨cs0, vs0, _, _, _, ⟨ad, had, _⟩, _⟩ := I.readAt hTT.ksl (I.env t) (I.good t) h
      obtain ⟨cs, u, r1, r2, r3, _⟩ := I.load hTT (I.env t) (I.good t) h
      split at r2
      · rename_i v hv
        obtain ⟨vs, h1, h2⟩ := retVs_sound I hT rs r2
        have hu := pureS_fits hv r3
        subst hu
        refine ⟨u :: vs, ?_, h2⟩
        rw [List.mapM_cons]
        have hl : (resOne a.tmps (.cell t T)).run P w = .ok u w := by
          rw [had] at r1
          simp only [Instr.loadAt, Instr.sureAddr, Sem.run_bind, Sem.run_pure, Result.andThen_ok] at r1
          simp only [resOne, had, asAddr, Sem.run_bind, Sem.run_pure, Result.andThen_ok, r1]
        simp only [Sem.run_bind, hl, Sem.run_pure, Result.andThen_ok, h1]
      · exact r2.elim
    · exact h.elim
def resV : List Value → Value
  | [v] => v
  | vs => .tuple vs.toArray
theorem results_run {P : Program} {fn : Func} {tmps : Array Value} {vs : List Value} {w : World} (h : (fn.results.toList.mapM (resOne tmps)).run P w = .ok vs w) : (results fn tmps).run P w = .ok (resV vs) w := by
  have h2 : ∀ g, g = resOne tmps → (fn.results.mapM g).run P w = .ok vs.toArray w := by
    rintro _ rfl
    rw [Array.mapM_eq_mapM_toList]
    simp only [Sem.run_map, h, Result.andThen_ok]
  unfold results
  rw [Sem.run_bind, h2 _ (by funext x; cases x <;> rfl)]
  simp only [Result.andThen_ok, Sem.run_pure]
  match vs with
  | [] => rfl
  | [v] => rfl
  | _ :: _ :: _ => simp [resV]
theorem evRet_sound (I : Inv w0 M0 R0 n dfs bs S R a w) {cx : Cx} (hT : TblOk cx.P cx.tbl) {fn : Func} {K : Ending → Hp → Prop} (h : evRet cx fn.results.toList S R K) : ∃ v S' R', (results fn a.tmps).run cx.P w = .ok v w ∧ Inv w0 M0 R0 n dfs bs S' R' a w ∧ R.le R' ∧ K (.returned v) R' := by
  unfold evRet at h
  obtain ⟨S1, R1, I1, l1, h1⟩ := frzRet_sound _ _ I h
  obtain ⟨vs, r1, r2⟩ := retVs_sound I1 hT _ h1
  refine ⟨_, S1, R1, results_run r1, I1, l1, ?_⟩
  match vs, r2 with
  | [], r2 => exact r2
  | [v], r2 => exact r2
  | _ :: _ :: _, r2 => exact r2
end
theorem run_enter {P : Program} {f : FuncId} {fn : Func} {c : Code} (hf : P.funcs[f]? = some fn) (hname : (fn.name == "runtime.NumGoroutine") = false) (hb : fn.body = some c) (args : Array Value) (w : World) : (callFunc f args).run P w = .ok (.enter f args) w := by
  have h1 : fn.name ≠ "runtime.NumGoroutine" := by simpa using hname
  simp [callFunc, hf, h1, hb]
end Go.KE

/- The engine, part 2M: things are given other numbers: what is said stays true. -/
namespace Go.KE
open Go.RowKit (Below)

structure Names (m : List (Nat × Nat)) : Prop where
  fst : (m.map (·.1)).Nodup
  snd : (m.map (·.2)).Nodup
theorem okNames_iff {m : List (Nat × Nat)} (h : okNames m = true) : Names m := by
  unfold okNames at h
  rw [Bool.and_eq_true] at h
  exact ⟨nodupB_iff h.1, nodupB_iff h.2⟩
theorem Names.lk_bk {m : List (Nat × Nat)} (N : Names m) {u id : Nat} : bk m id = some u ↔ lk m u = some id :=
  ⟨fun h => lk_of N.fst (bk_mem h), fun h => bk_of N.snd (lk_mem h)⟩
theorem Names.inj {m : List (Nat × Nat)} (N : Names m) {u v id : Nat} (h1 : lk m u = some id) (h2 : lk m v = some id) : u = v := by
  have e1 := N.lk_bk.2 h1
  have e2 := N.lk_bk.2 h2
  rw [e1] at e2
  exact Option.some.inj e2
def bsM (bs : Bs) (m : List (Nat × Nat)) (j : Nat) : Bd := match lk m j with
  | some id => bs id
  | none => ⟨0, ⟨none, 0, 0⟩⟩
theorem renCap_iff {m : List (Nat × Nat)} (N : Names m) : ∀ {cap cap' : List (Nat × Nat)}, renCap (bk m) cap = some cap' → cap'.length = cap.length ∧ (∀ bs, cap'.map (fun x => Value.pointer (some ⟨(bsM bs m x.1).blk, x.2, none⟩)) = cap.map (fun x => Value.pointer (some ⟨(bs x.1).blk, x.2, none⟩))) ∧ ∀ p ∈ cap', ∃ q ∈ cap, bk m q.1 = some p.1
  | [], cap', h => by
    simp only [renCap, Option.some.injEq] at h
    subst h
    exact ⟨rfl, fun _ => rfl, fun p hp => by simp at hp⟩
  | (j, o) :: cs, cap', h => by
    simp only [renCap] at h
    split at h
    · rename_i i cs' h1 h2
      obtain rfl := Option.some.inj h
      obtain ⟨i1, i2, i3⟩ := renCap_iff N h2
      refine ⟨by simp [i1], fun bs => ?_, fun p hp => ?_⟩
      · simp only [List.map_cons, i2 bs]
        congr 1
        simp only [bsM, N.lk_bk.1 h1]
      · rcases List.mem_cons.1 hp with rfl | hp
        · exact ⟨(j, o), by simp, h1⟩
        · obtain ⟨q, hq, e⟩ := i3 p hp
          exact ⟨q, by simp [hq], e⟩
    · cases h
theorem ren_conc {m : List (Nat × Nat)} (N : Names m) (bs : Bs) (x : LV) : x.ren (bk m) = .no ∨ (x.ren (bk m)).conc (bsM bs m) = x.conc bs := by
  have key : ∀ {j i : Nat}, bk m j = some i → bsM bs m i = bs j := fun {j i} h => by simp only [bsM, N.lk_bk.1 h]
  cases x <;> try exact .inr rfl
  · rename_i j o
    simp only [LV.ren]
    split
    · rename_i i e; right; simp only [LV.conc, key e]
    · exact .inl rfl
  · rename_i j
    simp only [LV.ren]
    split
    · rename_i i e; right; simp only [LV.conc, key e]
    · exact .inl rfl
  · rename_i j lo hi e'
    simp only [LV.ren]
    split
    · rename_i i e; right; simp only [LV.conc, key e]
    · exact .inl rfl
  · rename_i j x o e'
    simp only [LV.ren]
    split
    · rename_i i e; right; simp only [LV.conc, key e]
    · exact .inl rfl
  · rename_i j
    simp only [LV.ren]
    split
    · rename_i i e; right; simp only [LV.conc, key e]
    · exact .inl rfl
  · rename_i f cap
    simp only [LV.ren]
    split
    · rename_i cap' e
      right
      simp only [LV.conc, (renCap_iff N e).2.1 bs]
    · exact .inl rfl
theorem ren_fits {m : List (Nat × Nat)} (N : Names m) {bs : Bs} {x : LV} {v : Value} (h : x.fits bs v) : (x.ren (bk m)).fits (bsM bs m) v := by
  rcases h with rfl | rfl
  · exact .inl rfl
  · exact (ren_conc N bs x).imp id Eq.symm
theorem renL_fits {m : List (Nat × Nat)} (N : Names m) {bs : Bs} : ∀ {cs : List LV} {vs : List Value}, FitsL bs cs vs → FitsL (bsM bs m) (cs.map (LV.ren (bk m))) vs
  | [], [], h => h
  | _ :: _, _ :: _, h => ⟨ren_fits N h.1, renL_fits N h.2⟩
  | [], _ :: _, h => h.elim
  | _ :: _, [], h => h.elim
theorem ren_says {m : List (Nat × Nat)} (N : Names m) {x : LV} {u : Nat} (h : (x.ren (bk m)).says u = true) : ∃ id, x.says id = true ∧ lk m u = some id := by
  have one : ∀ {j i : Nat}, bk m j = some i → Nat.beq i u = true → lk m u = some j := fun {j i} h1 h2 => by
    have := Nat.eq_of_beq_eq_true h2
    subst this
    exact N.lk_bk.1 h1
  cases x <;> try (cases h; done)
  · rename_i j o
    simp only [LV.ren] at h
    split at h
    · rename_i i e; exact ⟨j, by simp [LV.says], one e h⟩
    · cases h
  · rename_i j
    simp only [LV.ren] at h
    split at h
    · rename_i i e; exact ⟨j, by simp [LV.says], one e h⟩
    · cases h
  · rename_i j lo hi e'
    simp only [LV.ren] at h
    split at h
    · rename_i i e; exact ⟨j, by simp [LV.says], one e h⟩
    · cases h
  · rename_i j x o e'
    simp only [LV.ren] at h
    split at h
    · rename_i i e; exact ⟨j, by simp [LV.says], one e h⟩
    · cases h
  · rename_i j
    simp only [LV.ren] at h
    split at h
    · rename_i i e; exact ⟨j, by simp [LV.says], one e h⟩
    · cases h
  · rename_i f cap
    simp only [LV.ren] at h
    split at h
    · rename_i cap' e
      simp only [LV.says, List.any_eq_true] at h
      obtain ⟨p, hp, hb⟩ := h
      obtain ⟨q, hq, eq⟩ := (renCap_iff N e).2.2 p hp
      exact ⟨q.1, by simp only [LV.says, List.any_eq_true]; exact ⟨q, hq, Nat.beq_refl _⟩, one eq hb⟩
    · cases h
theorem ren_adrOk {m : List (Nat × Nat)} {R : Hp} {x : LV} (h : x.adrOk R) : (x.ren (bk m)).adrOk R := by
  cases x <;> try exact h
  all_goals
    simp only [LV.ren]
    split <;> trivial
section
variable {w0 : World} {M0 : Mod} {R0 : Hp} {n : Nat} {dfs : List Deferred} {bs : Bs} {S S' : St} {R : Hp} {a : Act} {w : World}
theorem sub_hid {m : List (Nat × Nat)} {hid : Nat → Option HB} {venv : Nat → LV} {u : Nat} {h : HB} (e : (subSt m hid venv).hid u = some h) : ∃ id h', lk m u = some id ∧ hid id = some h' ∧ h = h'.ren (bk m) := by
  simp only [subSt] at e
  split at e
  · rename_i id e1
    split at e
    · rename_i h' e2
      exact ⟨id, h', e1, e2, (Option.some.inj e).symm⟩
    · cases e
  · cases e
theorem ren_blk (bs : Bs) (m : List (Nat × Nat)) {u id : Nat} (e : lk m u = some id) (h : HB) : (h.ren (bk m)).blk (bsM bs m) u = h.blk bs id := by
  cases h <;> simp [HB.ren, HB.blk, bsM, e]
/-- A part of the state under names is right, too. -/
theorem sub_inv (I : Inv w0 M0 R0 n dfs bs S R a w) {m : List (Nat × Nat)} (N : Names m) {venv : Nat → LV} {N' : Nat} (hv : ∀ t, (venv t).good (Alive S) R) (hN : ∀ t, N' ≤ t → venv t = .no) :
    Inv w ⟨fun _ => True, fun _ => none⟩ R N' [] (bsM bs m) (subSt m S.hid venv) R { tmps := (Array.range N').map fun t => (venv t).conc bs, defers := [] } w := by
  have good : ∀ {x : LV}, x.good (Alive S) R → (x.ren (bk m)).good (Alive (subSt m S.hid venv)) R := fun {x} h => ⟨fun u hs => by
    obtain ⟨id, h1, h2⟩ := ren_says N hs
    have := h.live id h1
    unfold Alive at this ⊢
    simp only [subSt, h2]
    cases e : S.hid id with
    | none => exact absurd e this
    | some y => simp, ren_adrOk h.adr⟩
  exact {
    size := by simp
    dfs := rfl
    env := fun t => by
      show ((venv t).ren (bk m)).fits (bsM bs m) _
      by_cases ht : t < N'
      · have : ((Array.range N').map fun t => (venv t).conc bs).getD t undef = (venv t).conc bs := by simp [Array.getD, ht]
        rw [this]
        exact ren_fits N (.inr rfl)
      · rw [hN t (by omega)]
        exact .inl rfl
    hb := fun u h hu => by
      obtain ⟨id, h', e1, e2, rfl⟩ := sub_hid hu
      have := I.hb id h' e2
      cases h' with
      | cells T cs =>
        obtain ⟨vs, f1, f2⟩ := this
        exact ⟨vs, renL_fits N f1, by simp only [bsM, e1]; exact f2⟩
      | row rt xs =>
        show HBok w (bsM bs m) u (.row rt xs)
        cases rt with
        | sl T ks => unfold HBok at this ⊢; simp only [bsM, e1] at this ⊢; exact this
        | mp ks => unfold HBok at this ⊢; simp only [bsM, e1] at this ⊢; exact this
    sep := fun u h b hu hb => by
      obtain ⟨id, h', e1, e2, rfl⟩ := sub_hid hu
      rw [ren_blk bs m e1] at hb
      exact ⟨(I.sep id h' b e2 hb).1, .inr trivial⟩
    dis := fun u v h h' b huv hu hv' hbu hbv => by
      obtain ⟨id, h1, e1, e2, rfl⟩ := sub_hid hu
      obtain ⟨id', h2, e1', e2', rfl⟩ := sub_hid hv'
      rw [ren_blk bs m e1] at hbu
      rw [ren_blk bs m e1'] at hbv
      exact I.dis id id' h1 h2 b (fun e => huv (N.inj e1 (e ▸ e1'))) e2 e2' hbu hbv
    good := fun t => good_l (good (hv t))
    goodc := fun u T cs hu c hc => by
      obtain ⟨id, h', e1, e2, e3⟩ := sub_hid hu
      cases h' with
      | cells T' cs' =>
        cases e3
        obtain ⟨c', hc', rfl⟩ := List.mem_map.1 hc
        exact good (I.goodc id _ cs' e2 c' hc')
      | row rt xs => cases e3
    sees := I.sees
    le := Hp.le.refl R
    new := fun b o h => .inl h
    wf := ⟨fun _ _ _ => rfl, rfl, rfl, rfl, Nat.le_refl _⟩
    fix := fun _ _ h => (by cases h) }
end
end Go.KE

/- The engine, part 2N: what is handed over, in its canonical form. -/
namespace Go.KE
open Go.RowKit (Below)

theorem okShape_iff {hid : Nat → Option HB} {j : Nat} {T : TypeId} {n : Nat} : ∀ {l : List (Nat × TypeId × Nat)}, okShape hid l = true → blkOf j l = some (T, n) → ∃ cs, hid j = some (.cells T cs) ∧ cs.length = n
  | (u, T', m) :: bs, h, hb => by
    simp only [okShape] at h
    split at h
    · rename_i T2 cs e
      split at h
      · rename_i hc2
        simp only [blkOf] at hb
        rcases beq_cases u j with ⟨e1, rfl⟩ | ⟨e1, _⟩
        · rw [e1] at hb
          obtain ⟨rfl, rfl⟩ : T' = T ∧ m = n := by simpa using hb
          simp only [Bool.and_eq_true] at hc2
          refine ⟨cs, ?_, Nat.eq_of_beq_eq_true hc2.2⟩
          rw [e, Nat.eq_of_beq_eq_true hc2.1]
        · rw [e1] at hb
          exact okShape_iff h hb
      · cases h
    · cases h
theorem srcs_S00 : ∀ (is : List LI), srcs S00 is = []
  | [] => rfl
  | .tmp _ _ :: is => by rw [srcs_cons]; exact srcs_S00 is
  | .cell _ _ _ :: is => by rw [srcs_cons]; exact srcs_S00 is
  | .cadr _ _ :: is => by rw [srcs_cons]; exact srcs_S00 is
  | .cfn _ _ _ :: is => by rw [srcs_cons]; exact srcs_S00 is
  | .row t rt :: is => by
    rw [srcs_cons, show LI.src S00 (.row t rt) = none by cases rt <;> rfl]
    exact srcs_S00 is
  | .crow _ _ _ :: is => by rw [srcs_cons]; exact srcs_S00 is
theorem okAsg_S00 (l : List Nat) : okAsg S00 l = true := by
  unfold okAsg
  rw [allB_iff]
  intro x _
  rfl
theorem objX_head (blks : List (Nat × TypeId × Nat)) (is : List LI) (d : LTup is) (asg : List Nat) (j : Nat) : (headX S00 ⟨is, blks⟩ asg d).hid j = objX blks is d j := by
  rw [headX_hid]
  unfold objX headBase
  simp only
  cases blkOf j blks with
  | some p => rfl
  | none =>
    simp only
    split <;> rfl
section
variable {w0 : World} {M0 : Mod} {R0 : Hp} {n : Nat} {dfs : List Deferred} {bs : Bs} {S S' : St} {R : Hp} {a : Act} {w : World}
theorem le_maxB {l : List Nat} : ∃ N, ∀ x ∈ l, x < N := by
  induction l with
  | nil => exact ⟨0, fun x hx => by simp at hx⟩
  | cons y ys ih =>
    obtain ⟨N, h⟩ := ih
    refine ⟨max N (y + 1), fun x hx => ?_⟩
    rcases List.mem_cons.1 hx with rfl | hx
    · omega
    · have := h x hx; omega
theorem canon (I : Inv w0 M0 R0 n dfs bs S R a w) {m : List (Nat × Nat)} {venv : Nat → LV} {blks : List (Nat × TypeId × Nat)} {is : List LI} {d : LTup is} (hv : ∀ t, (venv t).good (Alive S) R) (h : canonX m S.hid venv blks is = some d) :
    Names m ∧ ∃ bs', ObjI w bs' (objX blks is d) R ∧ (∀ j, rowAt (subSt m S.hid (rowEnv is venv)) j is = none → bs' j = bsM bs m j) ∧
      (∀ j, rowAt (subSt m S.hid (rowEnv is venv)) j is = some none → bs' j = ⟨0, ⟨none, 0, 0⟩⟩) ∧ (∀ j id, rowAt (subSt m S.hid (rowEnv is venv)) j is = some (some id) → bs' j = bsM bs m id) ∧
      (∀ j y b, objX blks is d j = some y → y.blk bs' j = some b → ∃ id z, S.hid id = some z ∧ z.blk bs id = some b ∧ ∃ u, lk m u = some id) := by
  unfold canonX at h
  split at h
  · rename_i hc
    simp only [Bool.and_eq_true] at hc
    obtain ⟨⟨⟨h1, h2⟩, h3⟩, h4⟩ := hc
    unfold okSig at h2
    rw [Bool.and_eq_true] at h2
    have N := okNames_iff h1
    obtain ⟨N', hN'⟩ := le_maxB (l := rowNums is)
    have hv' : ∀ t, (rowEnv is venv t).good (Alive S) R := fun t => by
      unfold rowEnv
      split
      · exact hv t
      · exact good_of_not (fun _ => rfl) trivial
    have hNo : ∀ t, t ∉ rowNums is → rowEnv is venv t = .no := fun t ht => by
      unfold rowEnv
      rw [memB_false.2 ht]
    have J := sub_inv I N hv' (N' := N') fun t ht => hNo t fun hm => by have := hN' t hm; omega
    have H : HeadOk0 S00 ⟨is, blks⟩ (rowNums is) := ⟨h2.1, by show okSrcs S00 (srcs S00 is) = true; rw [srcs_S00]; rfl, nodupB_iff h2.2, okAsg_S00 _⟩
    have K := head_inv (S := S00) (h := ⟨is, blks⟩) (asg := rowNums is) (x := d) J H (fun t id hs => by cases hs) (fun j T cs hj => by cases hj) (fun t ht _ => .inl (by
        show SV.l ((rowEnv is venv t).ren (bk m)) = .l .no
        rw [hNo t ht]; rfl))
      (fun j _ _ _ _ => ⟨fun rt xs e => (by cases e), fun T cs e => (by cases e)⟩) (fun u T k hb => okShape_iff h3 hb) h (okSrcs_iff h4).1 (fun id hid => by
        left
        obtain ⟨rt, d', e⟩ := srcs_row h hid
        unfold headBase
        cases hb : blkOf id blks with
        | some p =>
          obtain ⟨cs, e2, _⟩ := okShape_iff (T := p.1) (n := p.2) h3 hb
          rw [e] at e2; cases e2
        | none =>
          simp only
          split <;> rfl) (fun j _ => rfl)
    refine ⟨N, bsX (bsM bs m) (subSt m S.hid (rowEnv is venv)) is, ⟨fun j y hj => K.hb j y (by rw [objX_head]; exact hj), fun j y b hj hb => (K.sep j y b (by rw [objX_head]; exact hj) hb).1, fun i j y y' b hij hi hj => K.dis i j y y' b hij (by rw [objX_head]; exact hi) (by rw [objX_head]; exact hj), fun j T cs hj c hc => ?_⟩, fun j e => ?_, fun j e => ?_, fun j id e => ?_, fun j y b hj hb => ?_⟩
    · have := K.goodc j T cs (by rw [objX_head]; exact hj) c hc
      refine this.mono (fun id hid => ?_) (Hp.le.refl R)
      unfold Alive at hid
      rw [objX_head] at hid
      exact hid
    · unfold bsX; rw [e]
    · unfold bsX; rw [e]
    · unfold bsX; rw [e]
    · -- each block is one of the state's
      have base : ∀ u z, (subSt m S.hid (rowEnv is venv)).hid u = some z → ∀ b, z.blk (bsM bs m) u = some b → ∃ id z, S.hid id = some z ∧ z.blk bs id = some b ∧ ∃ u, lk m u = some id := fun u z hu b hb => by
        obtain ⟨id, h', e1, e2, rfl⟩ := sub_hid hu
        exact ⟨id, h', e2, by rw [← ren_blk bs m e1]; exact hb, u, e1⟩
      rw [← objX_head blks is d (rowNums is)] at hj
      rw [headX_hid] at hj
      rcases rowX_cases (S := subSt m S.hid (rowEnv is venv)) (headBase S00 ⟨is, blks⟩ (rowNums is) d j) j h with ⟨e1, e2⟩ | ⟨rt, d', e1, e2⟩
      · rw [e2] at hj
        unfold headBase at hj
        cases hbk : blkOf j blks with
        | none =>
          rw [hbk] at hj
          simp only at hj
          split at hj <;> cases hj
        | some p =>
          rw [hbk] at hj
          obtain ⟨cs, e3, _⟩ := okShape_iff (T := p.1) (n := p.2) h3 hbk
          obtain rfl := Option.some.inj hj
          refine base j _ e3 b ?_
          simpa [HB.blk, bsX, e1] using hb
      · rw [e1] at hj
        obtain rfl := Option.some.inj hj
        rcases e2 with ⟨e2, _, T, ks, rfl⟩ | ⟨id, e2, e3⟩
        · simp [HB.blk, bsX, e2] at hb
        · refine base id _ e3 b ?_
          cases rt <;> simpa [HB.blk, bsX, e2] using hb
  · cases h
end
end Go.KE
