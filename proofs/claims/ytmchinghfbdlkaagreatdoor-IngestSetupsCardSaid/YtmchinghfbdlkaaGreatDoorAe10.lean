/- A part of the proof that the program's function answers true: lemmas (Hash7 to Hash16) on carrying the program out over names of memory objects. No condition. -/
import Derived.Test.YtmchinghfbdlkaaGreatDoorAe09
set_option linter.unusedVariables false
set_option linter.unusedSimpArgs false
namespace Go.Proofs.Ae
open Go.Proofs
variable {tb : Tb} {P : Program}
structure Fm (A : Nat → Prop) (s0 s : St) : Prop where
  ok : s.Ok
  next : s0.next ≤ s.next
  old : ∀ i, i < s0.next → ¬ A i → s.get i = s0.get i
  mods : ∀ i ∈ s.mods, i ∈ s0.mods ∨ A i ∨ s0.next ≤ i
theorem Fm.refl {A : Nat → Prop} {s : St} (h : s.Ok) : Fm A s s := ⟨h, Nat.le_refl _, fun _ _ _ => rfl, fun _ h => .inl h⟩
theorem Ok.alloc {s : St} (h : s.Ok) (o : AObj) : (s.alloc o).Ok := fun i hi => by
  by_cases e : i = s.next
  · subst e; simp
  · have : hdom s.get i := by unfold hdom at hi ⊢; rwa [St.get_alloc_ne _ _ _ e] at hi
    have := h i this
    simp; omega
theorem Ok.upd {s : St} (h : s.Ok) {i : Nat} (o : AObj) (hi : i < s.next) : (s.upd i o).Ok := fun j hj => by
  by_cases e : j = i
  · subst e; simpa using hi
  · have : hdom s.get j := by unfold hdom at hj ⊢; rwa [St.get_upd_ne _ _ _ _ e] at hj
    simpa using h j this
theorem Fm.alloc {A : Nat → Prop} {s0 s : St} (h : Fm A s0 s) (o : AObj) : Fm A s0 (s.alloc o) :=
  ⟨Ok.alloc h.ok o, by have := h.next; simp; omega, fun i hi ha => by rw [St.get_alloc_ne _ _ _ (by have := h.next; omega), h.old i hi ha], h.mods⟩
theorem Fm.upd {A : Nat → Prop} {s0 s : St} (h : Fm A s0 s) {i : Nat} (o : AObj) (hi : A i ∨ s0.next ≤ i) (hl : i < s.next) : Fm A s0 (s.upd i o) :=
  ⟨Ok.upd h.ok o hl, h.next, fun j hj ha => by
    by_cases e : j = i
    · subst e; rcases hi with hi | hi
      · exact absurd hi ha
      · omega
    · rw [St.get_upd_ne _ _ _ _ e, h.old j hj ha], fun j hj => by
    rcases List.mem_cons.1 hj with rfl | hj
    · exact .inr hi
    · exact h.mods j hj⟩
theorem Fm.trans {A B : Nat → Prop} {s0 s s' : St} (h : Fm A s0 s) (k : Fm B s s') (hB : ∀ i, B i → A i ∨ s0.next ≤ i) : Fm A s0 s' :=
  ⟨k.ok, Nat.le_trans h.next k.next, fun i hi ha => by
    rw [k.old i (Nat.lt_of_lt_of_le hi h.next) (fun hb => (hB i hb).elim ha (fun e => by omega)), h.old i hi ha], fun i hi => by
    rcases k.mods i hi with hi | hi | hi
    · exact h.mods i hi
    · exact .inr (hB i hi)
    · exact .inr (.inr (Nat.le_trans h.next hi))⟩
theorem keepL_mem' {s : St} {old : List Nat} : ∀ {l : List Nat} {i : Nat}, i ∈ keepL s old l → i ∈ old ∨ (i ∈ l ∧ hdom s.get i) := fun {l i} h => by
  rcases keepL_mem.1 h with h | h
  · exact .inl h
  · exact .inr h
theorem Fm.keep {A : Nat → Prop} {s s1 : St} (hok : s.Ok) (h : Fm A (bare s) s1) : Fm A s (keepMods s s1) :=
  ⟨h.ok, h.next, h.old, fun i hi => by
    rcases keepL_mem' hi with hi | ⟨hi, hd⟩
    · exact .inl hi
    · rcases h.mods i hi with hi | hi
      · cases hi
      · exact .inr hi⟩
theorem Fm.join {A : Nat → Prop} {s s1 : St} (h : Fm A (bare s) s1) : Fm A s (joinMods s s1) :=
  ⟨h.ok, h.next, h.old, fun i hi => by
    rcases List.mem_append.1 hi with hi | hi
    · rcases h.mods i hi with hi | hi
      · cases hi
      · exact .inr hi
    · exact .inl hi⟩
inductive Src (s : St) : Value → List Int → Prop
  | nil : Src s (.slice none 0 0) []
  | at (b o cap : Nat) (l : List Int) (h : BytesAt s b o l) : Src s (.slice (some ⟨b, o, none⟩) l.length cap) l
inductive BB (n0 : Nat) (s : St) : Value → List Int → Prop
  | nil : BB n0 s (.slice none 0 0) []
  | at (b : Nat) (l : List Int) (hb : n0 ≤ b) (h : s.get b = some (.cells (u8s l) .grow)) : BB n0 s (.slice (some ⟨b, 0, none⟩) l.length (cap0 + 1)) l
theorem takeX_of_le : ∀ {l : List Value} {n : Nat}, n ≤ l.length → takeX l n = some (l.take n)
  | l, 0, _ => by rw [takeX_zero]; simp
  | [], n + 1, h => by simp at h
  | v :: l, n + 1, h => by rw [takeX_succ, takeX_of_le (by simpa using h)]; rfl
theorem BytesAt.cells {s : St} {b o : Nat} {l : List Int} (h : BytesAt s b o l) : cellsAt s ⟨b, o, none⟩ l.length = some (u8s l) := by
  obtain ⟨c, m, hc, h⟩ := h
  have hle : l.length ≤ (c.drop o).length := by
    cases l with
    | nil => simp
    | cons x l =>
      have := h l.length (by simp)
      have : o + l.length < c.length := by
        cases hlt : decide (o + l.length < c.length) with
        | true => exact of_decide_eq_true hlt
        | false => rw [List.getElem?_eq_none (by have := of_decide_eq_false hlt; omega)] at this; cases this
      simp; omega
  simp only [cellsAt, hc, cellsOf, dropX_eq, takeX_of_le hle, Option.some.injEq]
  refine List.ext_getElem? fun i => ?_
  by_cases hi : i < l.length
  · rw [List.getElem?_take_of_lt hi, List.getElem?_drop, h i hi, u8s_get hi]
  · rw [List.getElem?_eq_none (by simp; omega), List.getElem?_eq_none (by rw [u8s_len]; omega)]
theorem BytesAt.all {s : St} {b : Nat} {l : List Int} {m : Mode} (h : s.get b = some (.cells (u8s l) m)) : BytesAt s b 0 l := ⟨_, _, h, fun p hp => by rw [Nat.zero_add, u8s_get hp]⟩
theorem BB.src {n0 : Nat} {s : St} {v : Value} {l : List Int} (h : BB n0 s v l) : Src s v l := by
  cases h with
  | nil => exact .nil
  | «at» b l hb h => exact .at b 0 _ l (BytesAt.all h)
theorem Src.mono {s s' : St} {v : Value} {l : List Int} (h : Src s v l) (k : ∀ i, hdom s.get i → s'.get i = s.get i) : Src s' v l := by
  cases h with
  | nil => exact .nil
  | «at» b o cap l h =>
    refine .at b o cap l (h.mono (k b ?_))
    obtain ⟨c, m, hc, _⟩ := h
    exact hdom_of hc
theorem ty5b : ∃ ti, tyT.get 5 = some ti ∧ ti.d = .int .u8 ∧ ti.size = 1 ∧ ti.bytes = 1 := by
  have : (tyT.get 5).map (fun ti => (ti.d, ti.size, ti.bytes)) = some (.int .u8, 1, 1) := by kernel_rfl
  cases hg : tyT.get 5 with
  | none => rw [hg] at this; cases this
  | some ti =>
    rw [hg] at this
    simp only [Option.map_some, Option.some.injEq, Prod.mk.injEq] at this
    exact ⟨ti, rfl, this.1, this.2.1, this.2.2⟩
theorem elem47 : elemA tyT (some 47) = tyT.get 5 := by
  obtain ⟨ti, h, hd, _⟩ := ty47
  simp only [elemA, h, hd]
theorem allOne_u8 : ∀ (l : List Int), allOne (u8s l) = true
  | [] => rfl
  | x :: l => by
    change Bool.rec (motive := fun _ => Bool) false (allOne (u8s l)) (oneV (.int .u8 x)) = true
    exact allOne_u8 l
theorem put_over : ∀ (c vs : List Value), vs ≠ [] → putX c c.length vs = none
  | [], [], h => absurd rfl h
  | [], v :: vs, _ => by rw [List.length_nil, putX_nil_zero]; simp
  | x :: c, vs, h => by rw [List.length_cons, putX_succ, put_over c vs h]; rfl
theorem app_guard (m : List Int) (len : Nat) (h : len + m.length ≤ 1000000000000) : (Nat.ble ((len + m.length) * 1) 140737488355328 && allOne (u8s m) && Nat.ble 1 1 && Nat.ble 1 1 && Nat.beq (u8s m).length (m.length * 1)) = true := by
  have h1 : Nat.ble ((len + m.length) * 1) 140737488355328 = true := Nat.ble_eq_true_of_le (by omega)
  have h2 : Nat.beq (u8s m).length (m.length * 1) = true := by rw [u8s_len, Nat.mul_one]; simp
  have h3 : Nat.ble 1 1 = true := rfl
  rw [h1, allOne_u8, h2, h3]; rfl
theorem beq_len (x : Int) (m : List Int) : Nat.beq (x :: m).length 0 = false := rfl
theorem ble_cap0 : Nat.ble cap0 0 = false := rfl
theorem ble_cap : Nat.ble cap0 (cap0 + 1) = true := rfl
theorem ble_cap1 : Nat.ble (cap0 + 1) (cap0 + 1) = true := Nat.ble_eq_true_of_le (Nat.le_refl _)
theorem beq_cap1 : Nat.beq (cap0 + 1) (cap0 + 1) = true := Nat.beq_refl _
theorem beq_00 : Nat.beq 0 0 = true := rfl
theorem ble_00 : Nat.ble 0 0 = true := rfl
theorem app_nn (s : St) (h : (0 : Nat) + ([] : List Int).length ≤ 1000000000000) : appendS s 1 1 none 0 0 ([] : List Int).length (u8s []) = some (.slice none 0 0, s) := by
  unfold appendS
  rw [app_guard [] 0 h]
  simp only [cond_true, List.length_nil, beq_00, ble_cap0, cond_false, ble_00]
theorem app_an (s : St) (a : Option Addr) (len : Nat) (h : len + ([] : List Int).length ≤ 1000000000000) : appendS s 1 1 a len (cap0 + 1) ([] : List Int).length (u8s []) = some (.slice a len (cap0 + 1), s) := by
  unfold appendS
  rw [app_guard [] len h]
  simp only [cond_true, List.length_nil, beq_00, ble_cap, ble_cap1]
theorem app_nc (s : St) (x : Int) (m : List Int) (h : (0 : Nat) + (x :: m).length ≤ 1000000000000) : appendS s 1 1 none 0 0 (x :: m).length (u8s (x :: m)) = some (.slice (some ⟨s.next, 0, none⟩) (x :: m).length (cap0 + 1), s.alloc (.cells (u8s (x :: m)) .grow)) := by
  unfold appendS
  rw [app_guard (x :: m) 0 h]
  have h2 : Nat.ble (x :: m).length 0 = false := rfl
  simp only [cond_true, beq_len, cond_false, ble_cap0, appendE, oldCells, Nat.zero_mul, beq_00, Nat.zero_add, List.nil_append, h2]
theorem app_ac' (s : St) (b len cap n : Nat) (c xs : List Value) (hc1 : Nat.ble cap0 cap = true) (hc2 : Nat.beq cap (cap0 + 1) = true) (hn : Nat.beq n 0 = false)
    (hgd : (Nat.ble ((len + n) * 1) 140737488355328 && allOne xs && Nat.ble 1 1 && Nat.ble 1 1 && Nat.beq xs.length (n * 1)) = true)
    (h4 : putX c (0 + len * 1) xs = none) (h5 : takeX c (len * 1) = some c) (hg : s.get b = some (.cells c .grow)) :
    appendS s 1 1 (some ⟨b, 0, none⟩) len cap n xs = some (.slice (some ⟨s.next, 0, none⟩) (len + n) cap, (s.upd b .dead).alloc (.cells (c ++ xs) .grow)) := by
  unfold appendS
  rw [hgd]
  simp only [cond_true, hn, cond_false, hc1, appendG, hc2]
  rw [hg]
  unfold appG
  simp only [h4, beq_00, cond_true, h5]
theorem app_ac (s : St) (b : Nat) (l : List Int) (x : Int) (m : List Int) (h : l.length + (x :: m).length ≤ 1000000000000) (hg : s.get b = some (.cells (u8s l) .grow)) :
    appendS s 1 1 (some ⟨b, 0, none⟩) l.length (cap0 + 1) (x :: m).length (u8s (x :: m)) = some (.slice (some ⟨s.next, 0, none⟩) (l ++ x :: m).length (cap0 + 1), (s.upd b .dead).alloc (.cells (u8s (l ++ x :: m)) .grow)) := by
  have h4 : putX (u8s l) (0 + l.length * 1) (u8s (x :: m)) = none := by
    have := put_over (u8s l) (u8s (x :: m)) (by simp [u8s])
    rw [u8s_len] at this
    rw [Nat.zero_add, Nat.mul_one]; exact this
  have h5 : takeX (u8s l) (l.length * 1) = some (u8s l) := by
    have := take_all (u8s l)
    rw [u8s_len] at this
    rw [Nat.mul_one]; exact this
  have h6 : u8s (l ++ x :: m) = u8s l ++ u8s (x :: m) := by simp [u8s]
  rw [app_ac' s b l.length _ (x :: m).length (u8s l) (u8s (x :: m)) ble_cap beq_cap1 (beq_len x m) (app_guard (x :: m) l.length h) h4 h5 hg, h6, List.length_append]
theorem app_cells (s : St) (v : Value) (l m : List Int) {A : Nat → Prop} {s0 : St} (hF : Fm A s0 s) (hv : BB s0.next s v l) (hb : l.length + m.length ≤ 1000000000000) :
    ∃ a len cap v' s', v = .slice a len cap ∧ appendS s 1 1 a len cap m.length (u8s m) = some (v', s') ∧ Fm A s0 s' ∧ BB s0.next s' v' (l ++ m) ∧ ∀ i, i < s0.next → s'.get i = s.get i := by
  cases m with
  | nil =>
    rw [List.append_nil]
    cases hv with
    | nil => exact ⟨_, _, _, _, _, rfl, app_nn s hb, hF, .nil, fun _ _ => rfl⟩
    | «at» b l hbn h => exact ⟨_, _, _, _, _, rfl, app_an s _ _ hb, hF, .at b l hbn h, fun _ _ => rfl⟩
  | cons x m =>
    cases hv with
    | nil => exact ⟨_, _, _, _, _, rfl, app_nc s x m hb, hF.alloc _, .at s.next (x :: m) hF.next (St.get_alloc_self _ _), fun i hi => St.get_alloc_ne _ _ _ (by have := hF.next; omega)⟩
    | «at» b l hbn h =>
      have hbl : b < s.next := hF.ok _ (hdom_of h)
      refine ⟨_, _, _, _, _, rfl, app_ac s b l x m hb h, (hF.upd .dead (.inr hbn) hbl).alloc _, .at s.next (l ++ x :: m) hF.next (St.get_alloc_self _ _), fun i hi => ?_⟩
      rw [St.get_alloc_ne _ _ _ (by have := hF.next; simp; omega), St.get_upd_ne _ _ _ _ (by omega)]
theorem app_bytes (s : St) (v x : Value) (l m : List Int) {A : Nat → Prop} {s0 : St} (hF : Fm A s0 s) (hv : BB s0.next s v l) (hx : Src s x m) (hb : l.length + m.length ≤ 1000000000000) :
    ∃ v' s', builtinA tyT s .append [47, 47] [v, x] = some (.val v', s') ∧ Fm A s0 s' ∧ BB s0.next s' v' (l ++ m) ∧ ∀ i, i < s0.next → s'.get i = s.get i := by
  obtain ⟨a, len, cap, v', s', rfl, this, h2, h3, h4⟩ := app_cells s v l m hF hv hb
  refine ⟨v', s', ?_, h2, h3, h4⟩
  obtain ⟨ti5, t5, d5, z5, y5⟩ := ty5b
  unfold builtinA
  simp only [List.head?_cons, List.tail_cons, elem47, t5, tyD47]
  cases hx with
  | nil =>
    simp only [appendA, beq_00, cond_true, z5, y5]
    rw [show appendS s 1 1 a len cap 0 [] = some (v', s') from this]; rfl
  | «at» b o c m h =>
    have hc := h.cells
    rw [← Nat.mul_one m.length] at hc
    simp only [appendA, z5, y5]
    rw [hc]
    simp only [this]; rfl
end Go.Proofs.Ae
namespace Go.Proofs.Ae
open Go.Proofs
variable {tb : Tb} {P : Program}
def hblocks : Nat → List Int → List Int → List Int × List Int
  | 0, ws, l => (ws, l)
  | n + 1, ws, l => hblocks n (chgW ws (l.take 64)) (l.drop 64)
def hfin (ws l : List Int) : List Int × List Int := hblocks (l.length / 64) ws l
theorem hfin_step (ws l : List Int) (h : 64 ≤ l.length) : hfin ws l = hfin (chgW ws (l.take 64)) (l.drop 64) := by
  unfold hfin
  rw [List.length_drop, show l.length / 64 = (l.length - 64) / 64 + 1 from by omega]
  rfl
theorem hfin_end (ws l : List Int) (h : l.length < 64) : hfin ws l = (ws, l) := by
  unfold hfin
  rw [show l.length / 64 = 0 from by omega]; rfl
inductive RS (h : Nat) (s : St) : Value → List Int → Prop
  | nil : RS h s (.slice none 0 0) []
  | at (b o : Nat) (l : List Int) (hb : b ≠ h) (hB : BytesAt s b o l) : RS h s (.slice (some ⟨b, o, none⟩) l.length (cap0 + 1)) l
theorem RS.src {h : Nat} {s : St} {v : Value} {l : List Int} (k : RS h s v l) : Src s v l := by
  cases k with
  | nil => exact .nil
  | «at» b o l hb hB => exact .at b o _ l hB
theorem RS.mono {h : Nat} {s s' : St} {v : Value} {l : List Int} (k : RS h s v l) (e : ∀ i, i ≠ h → hdom s.get i → s'.get i = s.get i) : RS h s' v l := by
  cases k with
  | nil => exact .nil
  | «at» b o l hb hB => exact .at b o l hb (hB.mono (e b hb (by obtain ⟨c, m, hc, _⟩ := hB; exact hdom_of hc)))
theorem BB.rs {n0 h : Nat} {s : St} {v : Value} {l : List Int} (k : BB n0 s v l) (hh : h < n0) : RS h s v l := by
  cases k with
  | nil => exact .nil
  | «at» b l hb hg => exact .at b 0 l (by omega) (BytesAt.all hg)
theorem BytesAt.drop {s : St} {b o n : Nat} {l : List Int} (h : BytesAt s b o l) : BytesAt s b (o + n) (l.drop n) := by
  obtain ⟨c, m, hc, h⟩ := h
  refine ⟨c, m, hc, fun p hp => ?_⟩
  rw [List.length_drop] at hp
  rw [Nat.add_assoc, h (n + p) (by omega)]
  simp [atI, List.getD_eq_getElem?_getD, List.getElem?_drop]
theorem BytesAt.take {s : St} {b o n : Nat} {l : List Int} (h : BytesAt s b o l) : BytesAt s b o (l.take n) := by
  obtain ⟨c, m, hc, h⟩ := h
  refine ⟨c, m, hc, fun p hp => ?_⟩
  rw [List.length_take] at hp
  rw [h p (by omega)]
  simp [atI, List.getD_eq_getElem?_getD, List.getElem?_take, show p < n from by omega]
theorem sl_sliceA (s : St) (b o n c : Nat) (lo hi : Option Value) (r : Value × St) (h : sliceS s 1 (some ⟨b, o, none⟩) n c lo hi none = some r) : sliceA tyT s (.slice (some ⟨b, o, none⟩) n c) lo hi none (tyT.get 47) = some (.val r.1, r.2) := by
  obtain ⟨ti47, t47, d47, _⟩ := ty47
  obtain ⟨ti5, t5, d5, z5⟩ := ty5
  have : Nat.ble 1 1 = true := rfl
  obtain ⟨v, s2⟩ := r
  simp only [t47, sliceA, d47, t5, z5, this, cond_true, h, valS_so]
theorem sl_take (s : St) (b o n c : Nat) (hc : c = cap0 + 1) (h : 64 ≤ n) : sliceA tyT s (.slice (some ⟨b, o, none⟩) n c) none (some (.int .i64 64)) none (tyT.get 47) = some (.val (.slice (some ⟨b, o, none⟩) 64 c), s) := by
  refine sl_sliceA s b o n c _ _ (.slice (some ⟨b, o, none⟩) 64 c, s) ?_
  have h1 : Nat.ble cap0 c = true := by rw [hc]; exact ble_cap
  have h2 : Nat.beq c (cap0 + 1) = true := by rw [hc]; exact beq_cap1
  have h3 : boundA (.int .i64 64) n = some 64 := boundA_in .i64 64 n (by omega) (by omega)
  simp only [sliceS, h1, cond_true, h2, Option.isNone_none, Bool.and_true, sliceG, highA, h3, lowA, beq_00]
theorem sl_drop (h : Nat) (s : St) (b o c : Nat) (l : List Int) (hb : b ≠ h) (hB : BytesAt s b o l) (hc : c = cap0 + 1) (hl : 64 ≤ l.length) (hh : h < s.next) :
    ∃ v' s', sliceA tyT s (.slice (some ⟨b, o, none⟩) l.length c) (some (.int .i64 64)) none none (tyT.get 47) = some (.val v', s') ∧ RS h s' v' (l.drop 64) ∧ (s' = s ∨ s' = s.alloc (.cells [] .ro)) := by
  have h1 : Nat.ble cap0 c = true := by rw [hc]; exact ble_cap
  have h2 : Nat.beq c (cap0 + 1) = true := by rw [hc]; exact beq_cap1
  have h3 : boundA (.int .i64 64) l.length = some 64 := boundA_in .i64 64 _ (by omega) (by omega)
  have h4 : Nat.beq 64 0 = false := rfl
  by_cases he : l.length = 64
  · refine ⟨.slice (some ⟨s.next, 0, none⟩) 0 c, s.alloc (.cells [] .ro), sl_sliceA s b o _ c _ _ (.slice (some ⟨s.next, 0, none⟩) 0 c, s.alloc (.cells [] .ro)) ?_, ?_, .inr rfl⟩
    · have h5 : Nat.beq 64 l.length = true := by rw [he]; rfl
      simp only [sliceS, h1, cond_true, h2, Option.isNone_none, Bool.and_true, sliceG, highA, h3, lowA, h4, cond_false, h5]
    · rw [List.drop_of_length_le (by omega), hc]
      exact .at s.next 0 [] (by omega) ⟨_, _, St.get_alloc_self _ _, fun p hp => by simp at hp⟩
  · refine ⟨.slice (some ⟨b, o + 64, none⟩) (l.drop 64).length c, s, sl_sliceA s b o _ c _ _ (.slice (some ⟨b, o + 64, none⟩) (l.drop 64).length c, s) ?_, ?_, .inl rfl⟩
    · have h5 : Nat.beq 64 l.length = false := by
        cases hb : Nat.beq 64 l.length with
        | false => rfl
        | true => have := Nat.eq_of_beq_eq_true hb; omega
      simp only [sliceS, h1, cond_true, h2, Option.isNone_none, Bool.and_true, sliceG, highA, h3, lowA, h4, cond_false, h5, addA_none, List.length_drop, Nat.mul_one]
    · rw [hc]; exact .at b (o + 64) (l.drop 64) hb hB.drop
def HA (s : St) (h : Nat) (ws : List Int) (rv : Value) (many : Int) : Prop := s.get h = some (.cells (u32s ws ++ [rv, .int .i64 many]) .exact) ∧ ws.length = 8
theorem ty289 : ∃ ti, tyT.get 289 = some ti ∧ ti.d = .struct [(287, 0), (47, 8), (3, 9)] ∧ ti.size = 10 := tyR (by kernel_rfl)
theorem fa289 (s : St) (b : Nat) (f off n : Nat) (t : TypeId) (h1 : ([(287, 0), (47, 8), (3, 9)] : List (TypeId × Nat))[f]? = some (t, off)) (h2 : ∃ ti, tyT.get t = some ti ∧ ti.size = n + 1) :
    fieldAddrA tyT s (.pointer (some ⟨b, 0, none⟩)) f (tyT.get 289) = some (.val (.pointer (some ⟨b, off, none⟩)), s) := by
  obtain ⟨ti, t289, d289, _⟩ := ty289
  obtain ⟨tf, tt, tz⟩ := h2
  have : Nat.beq (n + 1) 0 = false := rfl
  simp only [t289, fieldAddrA, d289, fieldAt, h1, tt, tz, this, cond_false, addA_none, Nat.zero_add]
theorem fa289_0 (s : St) (b : Nat) : fieldAddrA tyT s (.pointer (some ⟨b, 0, none⟩)) 0 (tyT.get 289) = some (.val (.pointer (some ⟨b, 0, none⟩)), s) :=
  fa289 s b 0 0 7 287 rfl (let ⟨ti, h, _, z, _⟩ := ty287; ⟨ti, h, z⟩)
theorem fa289_1 (s : St) (b : Nat) : fieldAddrA tyT s (.pointer (some ⟨b, 0, none⟩)) 1 (tyT.get 289) = some (.val (.pointer (some ⟨b, 8, none⟩)), s) :=
  fa289 s b 1 8 0 47 rfl (let ⟨ti, h, _, z⟩ := ty47; ⟨ti, h, z⟩)
theorem fa289_2 (s : St) (b : Nat) : fieldAddrA tyT s (.pointer (some ⟨b, 0, none⟩)) 2 (tyT.get 289) = some (.val (.pointer (some ⟨b, 9, none⟩)), s) :=
  fa289 s b 2 9 0 3 rfl (let ⟨ti, h, _, z⟩ := ty3; ⟨ti, h, z⟩)
theorem ld3 (s : St) (b o : Nat) (v : Value) (h : cell1 o (s.get b) = some v) : loadA s (.pointer (some ⟨b, o, none⟩)) (tyT.get 3) = some (.val v, s) := by
  obtain ⟨ti5, t5, d5, z5⟩ := ty3
  rw [t5, load_one _ _ _ _ (by rw [d5]; rfl) (by rw [d5]; rfl), h]; rfl
theorem ld47 (s : St) (b o : Nat) (v : Value) (h : cell1 o (s.get b) = some v) : loadA s (.pointer (some ⟨b, o, none⟩)) (tyT.get 47) = some (.val v, s) := by
  obtain ⟨ti5, t5, d5, z5⟩ := ty47
  rw [t5, load_one _ _ _ _ (by rw [d5]; rfl) (by rw [d5]; rfl), h]; rfl
theorem HA.many {s : St} {h : Nat} {ws : List Int} {rv : Value} {n : Int} (k : HA s h ws rv n) : cell1 9 (s.get h) = some (.int .i64 n) := by
  rw [k.1, cell1_some, List.getElem?_append_right (by rw [u32s_len, k.2]; omega), u32s_len, k.2]; rfl
theorem HA.rest {s : St} {h : Nat} {ws : List Int} {rv : Value} {n : Int} (k : HA s h ws rv n) : cell1 8 (s.get h) = some rv := by
  rw [k.1, cell1_some, List.getElem?_append_right (by rw [u32s_len, k.2]; omega), u32s_len, k.2]; rfl
theorem HA.setMany {s : St} {h : Nat} {ws : List Int} {rv : Value} {n n' : Int} (k : HA s h ws rv n) : storeA s (.pointer (some ⟨h, 9, none⟩)) (.int .i64 n') (tyT.get 3) = some (.skip, s.upd h (.cells (u32s ws ++ [rv, .int .i64 n']) .exact)) := by
  obtain ⟨ti5, t5, d5, z5⟩ := ty3
  rw [t5, store_one _ _ _ _ _ _ _ z5 rfl k.1 (by simp) (by simp [u32s_len, k.2]), List.set_append_right _ _ (by rw [u32s_len, k.2]; omega), u32s_len, k.2]; rfl
theorem HA.setRest {s : St} {h : Nat} {ws : List Int} {rv rv' : Value} {n : Int} (k : HA s h ws rv n) (h1 : oneV rv' = true) : storeA s (.pointer (some ⟨h, 8, none⟩)) rv' (tyT.get 47) = some (.skip, s.upd h (.cells (u32s ws ++ [rv', .int .i64 n]) .exact)) := by
  obtain ⟨ti5, t5, d5, z5⟩ := ty47
  rw [t5, store_one _ _ _ _ _ _ _ z5 h1 k.1 (by simp) (by simp [u32s_len, k.2]), List.set_append_right _ _ (by rw [u32s_len, k.2]; omega), u32s_len, k.2]; rfl
theorem put_pre : ∀ (c r vs : List Value), vs.length = c.length → putX (c ++ r) 0 vs = some (vs ++ r)
  | [], [], [], _ => rfl
  | [], x :: r, [], _ => rfl
  | [], _, _ :: _, h => by simp at h
  | _ :: _, _, [], h => by simp at h
  | x :: c, r, v :: vs, h => by rw [List.cons_append, putX_zero_cons, put_pre c r vs (by simpa using h)]; rfl
theorem HA.loadW {s : St} {h : Nat} {ws : List Int} {rv : Value} {n : Int} (k : HA s h ws rv n) : loadA s (.pointer (some ⟨h, 0, none⟩)) (tyT.get 287) = some (.val (.agg (u32s ws).toArray), s) := by
  obtain ⟨ti, t287, d287, z287, _⟩ := ty287
  have h1 : isOther ti.d = false := by rw [d287]; rfl
  have h2 : isAggT ti.d = true := by rw [d287]; rfl
  have h3 : takeX (u32s ws ++ [rv, .int .i64 n]) 8 = some (u32s ws) := by
    rw [takeX_of_le (by simp [u32s_len, k.2]), List.take_append_of_le_length (by rw [u32s_len, k.2]; omega), List.take_of_length_le (by rw [u32s_len, k.2]; omega)]
  rw [t287]
  simp only [loadA, loadT, h1, h2, cond_false, cond_true, cellsAt, k.1, cellsOf, z287, dropX_eq, List.drop_zero, h3, aggO, valO]
theorem HA.setW {s : St} {h : Nat} {ws ws' : List Int} {rv : Value} {n : Int} (k : HA s h ws rv n) (h8 : ws'.length = 8) : storeA s (.pointer (some ⟨h, 0, none⟩)) (.agg (u32s ws').toArray) (tyT.get 287) = some (.skip, s.upd h (.cells (u32s ws' ++ [rv, .int .i64 n]) .exact)) := by
  obtain ⟨ti, t287, d287, z287, _⟩ := ty287
  have hz : Nat.beq (u32s ws').length 8 = true := by rw [u32s_len, h8]; rfl
  rw [t287]
  simp only [storeA, cells_agg, z287, hz, cond_true, storeAt, k.1, storeO, allOne_u32, put_pre (u32s ws) _ (u32s ws') (by rw [u32s_len, u32s_len, h8, k.2]), skipO]
end Go.Proofs.Ae
namespace Go.Proofs.Ae
open Go.Proofs
noncomputable def new_0 : Array Oper := opsAt Tryz.f155 [0]
noncomputable def new_1 : Array Oper := opsAt Tryz.f155 [1, 0]
theorem new_body : Tryz.f155.body = some (.seq (.region 0 new_0 false) (.seq (.region 1 new_1 false) .ret)) := by kernel_rfl
noncomputable def wri_0 : Array Oper := opsAt Tryz.f156 [0]
noncomputable def wri_1 : Array Oper := opsAt Tryz.f156 [1, 0]
noncomputable def wri_2 : Array Oper := opsAt Tryz.f156 [1, 1, 0, 0, 0, 0, 0]
noncomputable def wri_3 : Array Oper := opsAt Tryz.f156 [1, 1, 0, 0, 0, 1, 0, 0]
noncomputable def wri_4 : Array Oper := opsAt Tryz.f156 [1, 1, 0, 0, 0, 1, 0, 1]
noncomputable def wri_5 : Array Oper := opsAt Tryz.f156 [1, 1, 1]
theorem wri_body : Tryz.f156.body = some (.seq (.region 0 wri_0 false) (.seq (.region 1 wri_1 false) (.seq (.block 0 (.loop (.seq (.seq (.region 2 wri_2 false) (.cond (.tmp 23) .skip (.exit 0))) (.block 1 (.seq (.region 3 wri_3 true) (.region 4 wri_4 false)))))) (.region 5 wri_5 false)))) := by kernel_rfl
theorem tbH3_ty : tbH3.ty = tyT := rfl
def startW : List Int := hSha.map Int.ofNat
theorem RS.form {h : Nat} {s : St} {v : Value} {l : List Int} (k : RS h s v l) : ∃ a cap, v = .slice a l.length cap := by
  cases k <;> exact ⟨_, _, rfl⟩
theorem Src.form {s : St} {v : Value} {l : List Int} (k : Src s v l) : ∃ a cap, v = .slice a l.length cap := by
  cases k <;> exact ⟨_, _, rfl⟩
theorem HA.mono {s s' : St} {h : Nat} {ws : List Int} {rv : Value} {n : Int} (k : HA s h ws rv n) (e : s'.get h = s.get h) : HA s' h ws rv n := ⟨by rw [e, k.1], k.2⟩
theorem HA.lt {s : St} {h : Nat} {ws : List Int} {rv : Value} {n : Int} (k : HA s h ws rv n) (hok : s.Ok) : h < s.next := hok _ (hdom_of k.1)
theorem ro_ne {s : St} {i j : Nat} {c c' : List Value} (h : s.get i = some (.cells c .ro)) (k : s.get j = some (.cells c' .exact)) : i ≠ j := fun e => by
  rw [e, k] at h
  have := congrArg (fun o => match o with | some (AObj.cells _ .ro) => true | _ => false) h
  simp at this
theorem Src.dom {s : St} {v : Value} {m : List Int} (k : Src s v m) {b o n c : Nat} (e : v = .slice (some ⟨b, o, none⟩) n c) : hdom s.get b := by
  cases k with
  | nil => cases e
  | «at» b' o' cap m h =>
    simp only [Value.slice.injEq, Option.some.injEq, Addr.mk.injEq] at e
    obtain ⟨⟨rfl, _⟩, _⟩ := e
    obtain ⟨c, mo, hc, _⟩ := h
    exact hdom_of hc
theorem Src.move {s s' : St} {v : Value} {m : List Int} (k : Src s v m) (e : ∀ b o n c, v = .slice (some ⟨b, o, none⟩) n c → s'.get b = s.get b) : Src s' v m := by
  cases k with
  | nil => exact .nil
  | «at» b o cap m h => exact .at b o cap m (h.mono (e _ _ _ _ rfl))
theorem apartB_skip {es : List Edge} {bs : List Nat} {i : Nat} {ps : List (Nat × Nat)} {l : List Nat} (hl : l = []) (h : apartB es bs ps = true) : apartB es bs (tagL i ps l) = true := by rw [hl]; exact h
set_option maxHeartbeats 4000000
theorem write_C (s : St) (hok : s.Ok) (h : Nat) (ws l m : List Int) (rv bv : Value) (many : Nat) (hA : HA s h ws rv many) (hrv : RS h s rv l) (hbv : Src s bv m) (hne : ∀ b o n c, bv = .slice (some ⟨b, o, none⟩) n c → b ≠ h)
    (hb : l.length + m.length ≤ 1000000000000) (hmany : many + m.length < 9223372036854775808) (hk : s.get 4 = some (.cells (u32s kL) .ro)) :
    CP tbH3 156 [.pointer (some ⟨h, 0, none⟩), bv] s (fun v s' => v = .tuple #[] ∧ Fm (· = h) s s' ∧ ∃ rv', HA s' h (hfin ws (l ++ m)).1 rv' ((many + m.length : Nat) : Int) ∧ RS h s' rv' (hfin ws (l ++ m)).2) := by
  refine CP.of rfl (by kernel_rfl) wri_body (Nat.le_of_ble_eq_true rfl) ?_
  have e0 : tmA (argsTr [.pointer (some ⟨h, 0, none⟩), bv] 0 .nil) 0 = .pointer (some ⟨h, 0, none⟩) := rfl
  have e1 : tmA (argsTr [.pointer (some ⟨h, 0, none⟩), bv] 0 .nil) 1 = bv := rfl
  generalize argsTr [.pointer (some ⟨h, 0, none⟩), bv] 0 .nil = t0 at e0 e1 ⊢
  have hh : h < s.next := hA.lt hok
  have hF0 : Fm (· = h) (bare s) (bare s) := Fm.refl hok
  have h4 : 4 ≠ h := ro_ne hk hA.1
  have h4l : 4 < s.next := hok _ (hdom_of hk)
  obtain ⟨ba, bc, hbvf⟩ := hbv.form
  have hA0 : HA (bare s) h ws rv many := hA
  have hadd : IntKind.i64.wrap ((many : Int) + (m.length : Int)) = ((many + m.length : Nat) : Int) := by
    rw [show ((many : Int) + (m.length : Int)) = ((many + m.length : Nat) : Int) from by omega, i64_in _ (by omega)]
  obtain ⟨mm, hmm⟩ : ∃ mm : Nat, mm = many + m.length := ⟨_, rfl⟩
  rw [← hmm] at hadd ⊢
  refine W.seq (W.region ?_)
  refine WR.val rfl (by simp only [push_cast, tbH3_ty, Nat.reduceEqDiff, ↓reduceIte, e0]; rfl) ?_
  refine WR.val rfl (by simp only [push_cast, tbH3_ty, Nat.reduceEqDiff, ↓reduceIte, e0]; rfl) ?_
  refine WR.val rfl (by simp only [push_cast, tbH3_ty, Nat.reduceEqDiff, ↓reduceIte, e0]; exact fa289_2 _ _) ?_
  refine WR.val rfl (by simp only [push_cast, tbH3_ty, Nat.reduceEqDiff, ↓reduceIte]; exact ld3 _ _ _ _ hA0.many) ?_
  refine WR.val rfl (by simp only [push_cast, tbH3_ty, Nat.reduceEqDiff, ↓reduceIte, e1]; rfl) ?_
  refine WR.val rfl (by simp only [push_cast, tbH3_ty, Nat.reduceEqDiff, ↓reduceIte, hbvf]; rfl) ?_
  refine WR.val rfl (by simp only [push_cast, tbH3_ty, Nat.reduceEqDiff, ↓reduceIte, hadd]; rfl) ?_
  refine WR.val rfl (by simp only [push_cast, tbH3_ty, Nat.reduceEqDiff, ↓reduceIte]; rfl) ?_
  refine WR.val rfl (by simp only [push_cast, tbH3_ty, Nat.reduceEqDiff, ↓reduceIte]; exact fa289_2 _ _) ?_
  refine WR.do rfl (by simp only [push_cast, tbH3_ty, Nat.reduceEqDiff, ↓reduceIte]; exact hA0.setMany) (WR.nil ?_)
  have hF1 := hF0.upd (.cells (u32s ws ++ [rv, .int .i64 (mm : Int)]) .exact) (i := h) (.inl rfl) hh
  have hA1 : HA ((bare s).upd h (.cells (u32s ws ++ [rv, .int .i64 (mm : Int)]) .exact)) h ws rv mm := ⟨St.get_upd_self _ _ _, hA.2⟩
  have hrv1 : RS h ((bare s).upd h (.cells (u32s ws ++ [rv, .int .i64 (mm : Int)]) .exact)) rv l := hrv.mono fun i hi _ => St.get_upd_ne _ _ _ _ hi
  have hbv1 : Src ((bare s).upd h (.cells (u32s ws ++ [rv, .int .i64 (mm : Int)]) .exact)) bv m := hbv.move fun b o n c e => St.get_upd_ne _ _ _ _ (hne b o n c e)
  have hk1 : ((bare s).upd h (.cells (u32s ws ++ [rv, .int .i64 (mm : Int)]) .exact)).get 4 = some (.cells (u32s kL) .ro) := by rw [St.get_upd_ne _ _ _ _ h4]; exact hk
  generalize (bare s).upd h (.cells (u32s ws ++ [rv, .int .i64 (mm : Int)]) .exact) = s1 at hF1 hA1 hrv1 hbv1 hk1 ⊢
  obtain ⟨v2, s2, hap2, hF2, hB2, ho2⟩ := app_bytes s1 _ rv [] l hF1 .nil hrv1.src (by simp; omega)
  have hbv2 : Src s2 bv m := hbv1.move fun b o n c e => ho2 b (hok _ (hbv.dom e))
  rw [List.nil_append] at hB2
  obtain ⟨v3, s3, hap3, hF3, hB3, ho3⟩ := app_bytes s2 v2 bv l m hF2 hB2 hbv2 hb
  refine W.seq (W.region ?_)
  refine WR.val rfl (by simp only [push_cast, tbH3_ty, Nat.reduceEqDiff, ↓reduceIte, e0]; rfl) ?_
  refine WR.val rfl (by simp only [push_cast, tbH3_ty, Nat.reduceEqDiff, ↓reduceIte, e0]; rfl) ?_
  refine WR.val rfl (by simp only [push_cast, tbH3_ty, Nat.reduceEqDiff, ↓reduceIte, e0]; exact fa289_1 _ _) ?_
  refine WR.val rfl (by simp only [push_cast, tbH3_ty, Nat.reduceEqDiff, ↓reduceIte]; exact ld47 _ _ _ _ hA1.rest) ?_
  refine WR.val rfl (by simp only [push_cast, tbH3_ty, Nat.reduceEqDiff, ↓reduceIte]; exact hap2) ?_
  refine WR.val rfl (by simp only [push_cast, tbH3_ty, Nat.reduceEqDiff, ↓reduceIte, e1]; rfl) ?_
  refine WR.val rfl (by simp only [push_cast, tbH3_ty, Nat.reduceEqDiff, ↓reduceIte]; exact hap3) ?_
  refine WR.val rfl (by simp only [push_cast, tbH3_ty, Nat.reduceEqDiff, ↓reduceIte]; rfl) (WR.nil ?_)
  have hA3 : HA s3 h ws rv mm := (hA1.mono (ho2 h hh)).mono (ho3 h hh)
  have hk3 : s3.get 4 = some (.cells (u32s kL) .ro) := by rw [ho3 4 h4l, ho2 4 h4l, hk1]
  have hR3 : RS h s3 v3 (l ++ m) := hB3.rs hh
  obtain ⟨sB, hsB⟩ : ∃ sB, sB = s := ⟨_, rfl⟩
  rw [← hsB] at hF3
  refine W.seq (W.block (W.loop (fun k a s => ∃ (tm : Tr Value) (ws' L : List Int) (v : Value), a = ⟨tm, [], false, 156⟩ ∧ k = L.length ∧ tmA tm 0 = .pointer (some ⟨h, 0, none⟩) ∧ tmA tm 4 = v ∧ HA s h ws' rv mm ∧ RS h s v L ∧ Fm (· = h) (bare sB) s ∧ s.get 4 = some (.cells (u32s kL) .ro) ∧ hfin ws' L = hfin ws (l ++ m)) ?_ (l ++ m).length _ s3 ⟨_, ws, l ++ m, v3, rfl, rfl, ?_, ?_, hA3, hR3, hF3, hk3, rfl⟩))
  rotate_left
  · simp only [push_cast, tbH3_ty, Nat.reduceEqDiff, ↓reduceIte, e0]
  · simp only [push_cast, tbH3_ty, Nat.reduceEqDiff, ↓reduceIte]
  rintro k a s4 ⟨tm, ws', L, v, rfl, rfl, f0, f4, hA4, hR4, hF4, hk4, hfin4⟩
  obtain ⟨va, vc, hvf⟩ := hR4.form
  refine W.seq (W.seq (W.region ?_))
  refine WR.val rfl (by simp only [push_cast, tbH3_ty, Nat.reduceEqDiff, ↓reduceIte, f4]; rfl) ?_
  refine WR.val rfl (by simp only [push_cast, tbH3_ty, Nat.reduceEqDiff, ↓reduceIte, hvf]; rfl) ?_
  refine WR.val rfl (by simp only [push_cast, tbH3_ty, Nat.reduceEqDiff, ↓reduceIte]; rfl) ?_
  refine WR.nil (W.cond (b := decide ((64 : Int) ≤ (L.length : Int))) (by simp only [push_cast, ↓reduceIte]) (fun hb => W.skip ?_) (fun hb => W.exit ?_))
  · have hL : 64 ≤ L.length := by have := of_decide_eq_true hb; omega
    cases hR4 with
    | nil => simp at hL
    | «at» b o L hbh hB4 =>
    have hB4' : BytesAt s4 b o (L.take 64) := hB4.take
    have ht64 : (L.take 64).length = 64 := by rw [List.length_take]; omega
    refine W.block (W.seq (W.draw ?_))
    refine WD.q rfl rfl (by simp only [push_cast, tbH3_ty, Nat.reduceEqDiff, ↓reduceIte, f0]; rfl) ?_
    refine WD.q rfl rfl (by simp only [push_cast, tbH3_ty, Nat.reduceEqDiff, ↓reduceIte, f0]; rfl) ?_
    refine WD.q rfl rfl (by simp only [push_cast, tbH3_ty, Nat.reduceEqDiff, ↓reduceIte]; rfl) ?_
    refine WD.q rfl rfl (by simp only [push_cast, tbH3_ty, Nat.reduceEqDiff, ↓reduceIte]; exact fa289_0 _ _) ?_
    refine WD.q rfl rfl (by simp only [push_cast, tbH3_ty, Nat.reduceEqDiff, ↓reduceIte]; exact HA.loadW (s := bare s4) hA4) ?_
    refine WD.q rfl rfl (by simp only [push_cast, tbH3_ty, Nat.reduceEqDiff, ↓reduceIte, f4]; rfl) ?_
    refine WD.q rfl rfl (by simp only [push_cast, tbH3_ty, Nat.reduceEqDiff, ↓reduceIte]; exact sl_take _ _ _ _ _ rfl hL) ?_
    refine WD.call rfl rfl (by simp only [push_cast, tbH3_ty, Nat.reduceEqDiff, ↓reduceIte]; rfl) (CP.nat (by rfl) (nChg_eq (s := bare s4) hA4.2 ht64 (.inl rfl) hB4' hk4)) ?_ ?_
    · rintro _ _ ⟨rfl, rfl⟩
      exact apartB_empty _ _
    rintro _ _ ⟨rfl, rfl⟩
    rw [join_bare]
    refine WD.q rfl rfl (by simp only [push_cast, tbH3_ty, Nat.reduceEqDiff, ↓reduceIte]; rfl) ?_
    refine WD.q rfl rfl (by simp only [push_cast, tbH3_ty, Nat.reduceEqDiff, ↓reduceIte]; exact fa289_0 _ _) ?_
    refine WD.do rfl rfl (by simp only [push_cast, tbH3_ty, Nat.reduceEqDiff, ↓reduceIte]; exact HA.setW (s := bare s4) hA4 (chgW_len _ _ hA4.2)) rfl ?_ (WD.nil ?_)
    · repeat first | exact apartB_nil _ _ | refine apartB_tag (by rfl) ?_ | refine apartB_skip rfl ?_
    rw [join_upd]
    have hA5 : HA (s4.upd h (.cells (u32s (chgW ws' (L.take 64)) ++ [rv, .int .i64 (mm : Int)]) .exact)) h (chgW ws' (L.take 64)) rv mm := ⟨St.get_upd_self _ _ _, chgW_len _ _ hA4.2⟩
    have hF5 := hF4.upd (.cells (u32s (chgW ws' (L.take 64)) ++ [rv, .int .i64 (mm : Int)]) .exact) (i := h) (.inl rfl) (hA4.lt hF4.ok)
    have hB5 : BytesAt (s4.upd h (.cells (u32s (chgW ws' (L.take 64)) ++ [rv, .int .i64 (mm : Int)]) .exact)) b o L := hB4.mono (St.get_upd_ne _ _ _ _ hbh)
    have hk5 : (s4.upd h (.cells (u32s (chgW ws' (L.take 64)) ++ [rv, .int .i64 (mm : Int)]) .exact)).get 4 = some (.cells (u32s kL) .ro) := by rw [St.get_upd_ne _ _ _ _ h4, hk4]
    generalize s4.upd h (.cells (u32s (chgW ws' (L.take 64)) ++ [rv, .int .i64 (mm : Int)]) .exact) = s5 at hA5 hF5 hB5 hk5 ⊢
    obtain ⟨v6, s6, hsl, hR6, hs6⟩ := sl_drop h s5 b o (cap0 + 1) L hbh hB5 rfl hL (hA5.lt hF5.ok)
    have hF6 : Fm (· = h) (bare sB) s6 := by
      rcases hs6 with rfl | rfl
      · exact hF5
      · exact hF5.alloc _
    have hA6 : HA s6 h (chgW ws' (L.take 64)) rv mm := by
      rcases hs6 with rfl | rfl
      · exact hA5
      · exact hA5.mono (St.get_alloc_ne _ _ _ (by have := hA5.lt hF5.ok; omega))
    have hk6 : s6.get 4 = some (.cells (u32s kL) .ro) := by
      rcases hs6 with rfl | rfl
      · exact hk5
      · rw [St.get_alloc_ne _ _ _ (by have := hF5.ok _ (hdom_of hk5); omega), hk5]
    refine W.region ?_
    refine WR.val rfl (by simp only [push_cast, tbH3_ty, Nat.reduceEqDiff, ↓reduceIte, f4]; rfl) ?_
    refine WR.val rfl (by simp only [push_cast, tbH3_ty, Nat.reduceEqDiff, ↓reduceIte]; exact hsl) ?_
    refine WR.val rfl (by simp only [push_cast, tbH3_ty, Nat.reduceEqDiff, ↓reduceIte]; rfl) (WR.nil ⟨(L.drop 64).length, by rw [List.length_drop]; omega, _, chgW ws' (L.take 64), L.drop 64, v6, rfl, rfl, ?_, ?_, hA6, hR6, hF6, hk6, by rw [← hfin4, hfin_step ws' L hL]⟩)
    · simp only [push_cast, tbH3_ty, Nat.reduceEqDiff, ↓reduceIte, f0]
    · simp only [push_cast, tbH3_ty, Nat.reduceEqDiff, ↓reduceIte]
  · have hL : L.length < 64 := by have := of_decide_eq_false hb; omega
    rw [hfin_end _ _ hL] at hfin4
    refine W.region ?_
    refine WR.val rfl (by simp only [push_cast, tbH3_ty, Nat.reduceEqDiff, ↓reduceIte, f0]; rfl) ?_
    refine WR.val rfl (by simp only [push_cast, tbH3_ty, Nat.reduceEqDiff, ↓reduceIte, f4]; rfl) ?_
    refine WR.val rfl (by simp only [push_cast, tbH3_ty, Nat.reduceEqDiff, ↓reduceIte]; rfl) ?_
    refine WR.val rfl (by simp only [push_cast, tbH3_ty, Nat.reduceEqDiff, ↓reduceIte]; exact fa289_1 _ _) ?_
    refine WR.do rfl (by simp only [push_cast, tbH3_ty, Nat.reduceEqDiff, ↓reduceIte]; exact hA4.setRest (by rw [hvf]; rfl)) (WR.nil ?_)
    refine ⟨.inl rfl, rfl, [], rfl, rfl, ?_, v, ?_, ?_⟩
    · rw [← hsB]
      exact Fm.keep (by rw [hsB]; exact hok) (hF4.upd _ (.inl rfl) (hA4.lt hF4.ok))
    · rw [← hfin4]
      exact ⟨St.get_upd_self _ _ _, hA4.2⟩
    · rw [← hfin4]
      exact hR4.mono fun i hi _ => St.get_upd_ne _ _ _ _ hi
end Go.Proofs.Ae
namespace Go.Proofs.Ae
open Go.Proofs
noncomputable def sum_0 : Array Oper := opsAt Tryz.f157 [0]
noncomputable def sum_1 : Array Oper := opsAt Tryz.f157 [1, 0]
noncomputable def sum_2 : Array Oper := opsAt Tryz.f157 [1, 1, 0, 0, 0, 0, 0]
noncomputable def sum_3 : Array Oper := opsAt Tryz.f157 [1, 1, 0, 0, 0, 1, 0]
noncomputable def sum_4 : Array Oper := opsAt Tryz.f157 [1, 1, 1, 0, 0]
noncomputable def sum_5 : Array Oper := opsAt Tryz.f157 [1, 1, 1, 0, 1, 0, 0, 0, 0]
noncomputable def sum_6 : Array Oper := opsAt Tryz.f157 [1, 1, 1, 0, 1, 0, 0, 1, 0, 0]
noncomputable def sum_7 : Array Oper := opsAt Tryz.f157 [1, 1, 1, 0, 1, 0, 0, 1, 1]
noncomputable def sum_8 : Array Oper := opsAt Tryz.f157 [1, 1, 1, 1, 0]
noncomputable def sum_9 : Array Oper := opsAt Tryz.f157 [1, 1, 1, 1, 1, 0, 0, 0, 0, 0]
noncomputable def sum_10 : Array Oper := opsAt Tryz.f157 [1, 1, 1, 1, 1, 0, 0, 0, 1, 0, 0]
noncomputable def sum_11 : Array Oper := opsAt Tryz.f157 [1, 1, 1, 1, 1, 0, 0, 0, 1, 1]
noncomputable def sum_12 : Array Oper := opsAt Tryz.f157 [1, 1, 1, 1, 1, 1, 0]
noncomputable def sum_13 : Array Oper := opsAt Tryz.f157 [1, 1, 1, 1, 1, 1, 1, 0, 0]
noncomputable def sum_14 : Array Oper := opsAt Tryz.f157 [1, 1, 1, 1, 1, 1, 1, 0, 1, 0, 0, 0]
noncomputable def sum_15 : Array Oper := opsAt Tryz.f157 [1, 1, 1, 1, 1, 1, 1, 0, 1, 0, 0, 1, 1, 0, 0, 0]
noncomputable def sum_16 : Array Oper := opsAt Tryz.f157 [1, 1, 1, 1, 1, 1, 1, 0, 1, 0, 0, 1, 1, 0, 0, 1]
noncomputable def sum_17 : Array Oper := opsAt Tryz.f157 [1, 1, 1, 1, 1, 1, 1, 0, 1, 0, 0, 1, 1, 1]
noncomputable def sum_18 : Array Oper := opsAt Tryz.f157 [1, 1, 1, 1, 1, 1, 1, 1, 0]
theorem sum_body : Tryz.f157.body = some (.seq (.region 0 sum_0 false) (.seq (.region 1 sum_1 false) (.seq (.block 0 (.loop (.seq (.seq (.region 2 sum_2 false) (.cond (.tmp 19) .skip (.exit 0))) (.block 1 (.region 3 sum_3 false))))) (.seq (.seq (.region 4 sum_4 false) (.block 2 (.loop (.seq (.seq (.region 5 sum_5 false) (.cond (.tmp 24) .skip (.exit 2))) (.seq (.block 3 (.region 7 sum_6 false)) (.region 6 sum_7 false)))))) (.seq (.region 8 sum_8 false) (.seq (.block 4 (.loop (.seq (.seq (.region 9 sum_9 false) (.cond (.tmp 46) .skip (.exit 4))) (.seq (.block 5 (.region 11 sum_10 true)) (.region 10 sum_11 false))))) (.seq (.region 12 sum_12 false) (.seq (.seq (.region 13 sum_13 false) (.block 6 (.loop (.seq (.region 14 sum_14 false) (.seq (.cond (.tmp 56) .skip (.exit 6)) (.seq (.block 7 (.seq (.region 15 sum_15 false) (.region 16 sum_16 false))) (.region 17 sum_17 false))))))) (.seq (.region 18 sum_18 false) .ret))))))))) := by kernel_rfl
theorem tyD217 : tyD tyT (some 217) = .int .u64 := by kernel_rfl
attribute [push_cast] tyD217
theorem ty5z : ∃ ti, tyT.get 5 = some ti ∧ ti.d = .int .u8 ∧ ti.size = 1 ∧ ti.zero.cells.toList = [.int .u8 0] := tyZ (by kernel_rfl)
theorem bs1 (s : St) (x : Int) : buildSliceA s 1 [(0, .int .u8 x)] (tyT.get 5) = some (.val (.slice (some ⟨s.next, 0, none⟩) 1 1), s.alloc (.cells (u8s [x]) .exact)) := by
  obtain ⟨ti, t5, d5, z5, zz⟩ := ty5z
  rw [t5]
  simp only [buildSliceA, z5, zz]
  rfl
theorem bs4 (s : St) (x y z w : Int) : buildSliceA s 4 [(0, .int .u8 x), (1, .int .u8 y), (2, .int .u8 z), (3, .int .u8 w)] (tyT.get 5) = some (.val (.slice (some ⟨s.next, 0, none⟩) 4 4), s.alloc (.cells (u8s [x, y, z, w]) .exact)) := by
  obtain ⟨ti, t5, d5, z5, zz⟩ := ty5z
  rw [t5]
  simp only [buildSliceA, z5, zz]
  rfl
theorem BB.alloc {n0 : Nat} {s : St} {v : Value} {l : List Int} (k : BB n0 s v l) (hok : s.Ok) (o : AObj) : BB n0 (s.alloc o) v l := by
  cases k with
  | nil => exact .nil
  | «at» b l hb hg => exact .at b l hb (by rw [St.get_alloc_ne _ _ _ (by have := hok _ (hdom_of hg); omega), hg])
theorem app_one (s : St) (v : Value) (l : List Int) (x : Int) {A : Nat → Prop} {s0 : St} (hF : Fm A s0 s) (hv : BB s0.next s v l) (hb : l.length + 1 ≤ 1000000000000) :
    ∃ v' s', builtinA tyT (s.alloc (.cells (u8s [x]) .exact)) .append [47, 47] [v, .slice (some ⟨s.next, 0, none⟩) 1 1] = some (.val v', s') ∧ Fm A s0 s' ∧ BB s0.next s' v' (l ++ [x]) := by
  obtain ⟨v', s', h1, h2, h3, _⟩ := app_bytes (s.alloc (.cells (u8s [x]) .exact)) v (.slice (some ⟨s.next, 0, none⟩) [x].length 1) l [x] (hF.alloc _) (hv.alloc hF.ok _) (.at s.next 0 1 [x] (BytesAt.all (St.get_alloc_self _ _))) hb
  exact ⟨v', s', h1, h2, h3⟩
def Nil0 (i : Nat) : Prop := False
def zeros (n k : Nat) : List Int := List.replicate k 0
def zn (n : Nat) : Nat := (119 - n % 64) % 64
set_option maxHeartbeats 4000000
def keep5 : List Nat := [3, 16, 17, 18, 19, 20, 21, 22]
theorem sum_zeros (sB : St) (L : List Int) (n : Nat) (hL : L.length = n + 1) (hn : n ≤ 1000000) (a0 : AA) (sA : St) (Q : AX → AA → St → Prop) (v0 : Value)
    (e3 : tmA a0.tm 3 = v0) (hv : BB sB.next sA v0 L) (hF : Fm Nil0 (bare sB) sA)
    (k : ∀ tm s v, Keep keep5 a0.tm tm → tmA tm 3 = v → BB sB.next s v (L ++ List.replicate (zn n) 0) → Fm Nil0 (bare sB) s → Q .normal ⟨tm, a0.df, a0.rnd, a0.fid⟩ s) :
    W tbH3 (.block 0 (.loop (.seq (.seq (.region 2 sum_2 false) (.cond (.tmp 19) .skip (.exit 0))) (.block 1 (.region 3 sum_3 false))))) a0 sA Q := by
  refine W.block (W.loop (fun m a s => ∃ (j : Nat) (tm : Tr Value) (v : Value), a = ⟨tm, a0.df, a0.rnd, a0.fid⟩ ∧ j + m = zn n ∧ tmA tm 3 = v ∧ Keep keep5 a0.tm tm ∧ BB sB.next s v (L ++ List.replicate j 0) ∧ Fm Nil0 (bare sB) s) ?_ (zn n) a0 sA ⟨0, a0.tm, v0, rfl, by omega, e3, Keep.refl _ _, by simpa using hv, hF⟩)
  rintro m a s ⟨j, tm, v, rfl, hm, f3, hK, hB, hFs⟩
  obtain ⟨va, vc, hvf⟩ := hB.src.form
  have hlen : (L ++ List.replicate j (0 : Int)).length = n + 1 + j := by simp [hL]
  rw [hlen] at hvf
  obtain ⟨q, hq⟩ : ∃ q : Nat, q = n + 1 + j := ⟨_, rfl⟩
  rw [← hq] at hvf
  obtain ⟨r, hr⟩ : ∃ r : Nat, r = q % 64 := ⟨_, rfl⟩
  have hrem : intA .rem .i64 (q : Int) 64 = some (.int .i64 (r : Int)) := by rw [hr]; rfl
  have hzn : zn n < 64 := Nat.mod_lt _ (by omega)
  refine W.seq (W.seq (W.region ?_))
  refine WR.val rfl (by simp only [push_cast, tbH3_ty, Nat.reduceEqDiff, ↓reduceIte, f3]; rfl) ?_
  refine WR.val rfl (by simp only [push_cast, tbH3_ty, Nat.reduceEqDiff, ↓reduceIte, hvf]; rfl) ?_
  refine WR.val rfl (by simp only [push_cast, tbH3_ty, Nat.reduceEqDiff, ↓reduceIte, hrem]; rfl) ?_
  refine WR.val rfl (by simp only [push_cast, tbH3_ty, Nat.reduceEqDiff, ↓reduceIte]; rfl) ?_
  refine WR.nil (W.cond (b := !decide ((r : Int) = 56)) (by simp only [tmA_set, put_some_tm, evO_tmp, ↓reduceIte]) (fun hb => W.skip ?_) (fun hb => W.exit ?_))
  · have hj : j < zn n := by
      have h1 : ¬ (r : Int) = 56 := by simpa using hb
      have h2 : q % 64 ≠ 56 := fun e => h1 (by omega)
      unfold zn at hm ⊢
      omega
    obtain ⟨v', s', hap, hF', hB'⟩ := app_one s v _ 0 hFs hB (by rw [hlen]; omega)
    refine W.block (W.region ?_)
    refine WR.val rfl (by simp only [push_cast, tbH3_ty, Nat.reduceEqDiff, ↓reduceIte, f3]; rfl) ?_
    refine WR.val rfl (by simp only [push_cast, tbH3_ty, Nat.reduceEqDiff, ↓reduceIte, elem47, evP_cons, evP_nil, List.toList_toArray]; exact bs1 _ _) ?_
    refine WR.val rfl (by simp only [push_cast, tbH3_ty, Nat.reduceEqDiff, ↓reduceIte]; exact hap) ?_
    refine WR.val rfl (by simp only [push_cast, tbH3_ty, Nat.reduceEqDiff, ↓reduceIte]; rfl) (WR.nil ⟨m - 1, by omega, j + 1, _, v', rfl, by omega, ?_, ?_, ?_, hF'⟩)
    · simp only [push_cast, tbH3_ty, Nat.reduceEqDiff, ↓reduceIte]
    · simp only [push_cast]
      repeat refine Keep.set ?_ (by decide)
      exact hK
    · rw [List.replicate_succ', ← List.append_assoc]; exact hB'
  · have hj : j = zn n := by
      have h1 : (r : Int) = 56 := by simpa using hb
      have h2 : q % 64 = 56 := by omega
      unfold zn at hm ⊢
      omega
    subst hj
    refine k _ s v ?_ ?_ hB hFs
    · simp only [push_cast]
      repeat refine Keep.set ?_ (by decide)
      exact hK
    · simp only [push_cast, tbH3_ty, Nat.reduceEqDiff, ↓reduceIte, f3]
def lb (many : Int) (q : Nat) : Int := IntKind.u8.wrap (shrI .u64 (shlI .u64 (IntKind.u64.wrap many) 3) (q : Int))
def lenB (many : Int) : Nat → List Int
  | 0 => []
  | j + 1 => lenB many j ++ [lb many (8 * (7 - j))]
theorem lenB_len (many : Int) : ∀ j, (lenB many j).length = j
  | 0 => rfl
  | j + 1 => by simp [lenB, lenB_len many j]
theorem negB_nat (q : Nat) : negB (q : Int) = false := rfl
def keep6 : List Nat := [3, 4, 23, 24, 25, 26, 27, 28, 29, 30, 31, 32, 33, 34, 35, 36, 37, 38, 39]
theorem sum_len (sB : St) (h : Nat) (ws : List Int) (rv : Value) (many : Int) (hA : HA sB h ws rv many) (hok : sB.Ok) (L : List Int) (hL : L.length ≤ 1000000) (a0 : AA) (sA : St) (Q : AX → AA → St → Prop) (v0 : Value)
    (e0 : tmA a0.tm 0 = .pointer (some ⟨h, 0, none⟩)) (e3 : tmA a0.tm 3 = v0) (e4 : tmA a0.tm 4 = .int .i64 7) (hv : BB sB.next sA v0 L) (hF : Fm Nil0 (bare sB) sA)
    (k : ∀ tm s v, Keep keep6 a0.tm tm → tmA tm 3 = v → BB sB.next s v (L ++ lenB many 8) → Fm Nil0 (bare sB) s → Q .normal ⟨tm, a0.df, a0.rnd, a0.fid⟩ s) :
    W tbH3 (.block 2 (.loop (.seq (.seq (.region 5 sum_5 false) (.cond (.tmp 24) .skip (.exit 2))) (.seq (.block 3 (.region 7 sum_6 false)) (.region 6 sum_7 false))))) a0 sA Q := by
  refine W.block (W.loop (fun m a s => ∃ (j : Nat) (tm : Tr Value) (v : Value), a = ⟨tm, a0.df, a0.rnd, a0.fid⟩ ∧ j + m = 8 ∧ tmA tm 3 = v ∧ tmA tm 4 = .int .i64 (7 - (j : Int)) ∧ Keep keep6 a0.tm tm ∧ BB sB.next s v (L ++ lenB many j) ∧ Fm Nil0 (bare sB) s) ?_ 8 a0 sA ⟨0, a0.tm, v0, rfl, by omega, e3, e4, Keep.refl _ _, by simpa [lenB] using hv, hF⟩)
  rintro m a s ⟨j, tm, v, rfl, hm, f3, f4, hK, hB, hFs⟩
  have f0 : tmA tm 0 = .pointer (some ⟨h, 0, none⟩) := by rw [hK 0 (by decide), e0]
  obtain ⟨i, hi⟩ : ∃ i : Int, i = 7 - (j : Int) := ⟨_, rfl⟩
  rw [← hi] at f4
  have hA4 : HA s h ws rv many := hA.mono (hFs.old h (hA.lt hok) (fun e => e))
  refine W.seq (W.seq (W.region ?_))
  iterate 2 refine WR.val rfl (by simp only [push_cast, tbH3_ty, Nat.reduceEqDiff, ↓reduceIte, f4]; rfl) ?_
  refine WR.nil (W.cond (b := decide ((0 : Int) ≤ i)) (by simp only [push_cast, tbH3_ty, Nat.reduceEqDiff, ↓reduceIte]) (fun hb => W.skip ?_) (fun hb => W.exit ?_))
  · have hj : j < 8 := by have := of_decide_eq_true hb; omega
    obtain ⟨q, hq⟩ : ∃ q : Nat, q = 8 * (7 - j) := ⟨_, rfl⟩
    have hmul : IntKind.i64.wrap (8 * i) = (q : Int) := by rw [show 8 * i = (q : Int) from by omega, i64_in _ (by omega)]
    have hlen : (L ++ lenB many j).length = L.length + j := by simp [lenB_len]
    obtain ⟨v', s', hap, hF', hB'⟩ := app_one s v _ (lb many q) hFs hB (by rw [hlen]; omega)
    refine W.seq (W.block (W.region ?_))
    refine WR.val rfl (by simp only [push_cast, tbH3_ty, Nat.reduceEqDiff, ↓reduceIte, f3]; rfl) ?_
    refine WR.val rfl (by simp only [push_cast, tbH3_ty, Nat.reduceEqDiff, ↓reduceIte, f0]; rfl) ?_
    refine WR.val rfl (by simp only [push_cast, tbH3_ty, Nat.reduceEqDiff, ↓reduceIte]; rfl) ?_
    refine WR.val rfl (by simp only [push_cast, tbH3_ty, Nat.reduceEqDiff, ↓reduceIte]; exact fa289_2 _ _) ?_
    refine WR.val rfl (by simp only [push_cast, tbH3_ty, Nat.reduceEqDiff, ↓reduceIte]; exact ld3 _ _ _ _ hA4.many) ?_
    refine WR.val rfl (by simp only [push_cast, tbH3_ty, Nat.reduceEqDiff, ↓reduceIte]; rfl) ?_
    refine WR.val rfl (by simp only [push_cast, tbH3_ty, Nat.reduceEqDiff, ↓reduceIte]; rfl) ?_
    refine WR.val rfl (by simp only [push_cast, tbH3_ty, Nat.reduceEqDiff, ↓reduceIte, f4]; rfl) ?_
    refine WR.val rfl (by simp only [push_cast, tbH3_ty, Nat.reduceEqDiff, ↓reduceIte, hmul]; rfl) ?_
    refine WR.val rfl (by simp only [push_cast, tbH3_ty, Nat.reduceEqDiff, ↓reduceIte]; rw [bin_shr _ _ _ _ _ _ _ _ _ (negB_nat q)]; rfl) ?_
    refine WR.val rfl (by simp only [push_cast, tbH3_ty, Nat.reduceEqDiff, ↓reduceIte]; rfl) ?_
    refine WR.val rfl (by simp only [push_cast, tbH3_ty, Nat.reduceEqDiff, ↓reduceIte, elem47, evP_cons, evP_nil, List.toList_toArray]; exact bs1 _ _) ?_
    refine WR.val rfl (by simp only [push_cast, tbH3_ty, Nat.reduceEqDiff, ↓reduceIte]; exact hap) ?_
    refine WR.val rfl (by simp only [push_cast, tbH3_ty, Nat.reduceEqDiff, ↓reduceIte]; rfl) (WR.nil ?_)
    have hsub : IntKind.i64.wrap (i - 1) = 7 - ((j + 1 : Nat) : Int) := by
      rw [show i - 1 = 7 - ((j + 1 : Nat) : Int) from by omega]
      by_cases h7 : j = 7
      · subst h7; rfl
      · rw [show (7 - ((j + 1 : Nat) : Int)) = ((6 - j : Nat) : Int) from by omega, i64_in _ (by omega)]
    refine W.region ?_
    refine WR.val rfl (by simp only [push_cast, tbH3_ty, Nat.reduceEqDiff, ↓reduceIte, f4]; rfl) ?_
    refine WR.val rfl (by simp only [int_sub, tmA_set, put_some_tm, evO_tmp, evO_const, op_bin, bin_int, valO_so, ↓reduceIte, hsub]; rfl) ?_
    refine WR.val rfl (by simp only [tmA_set, put_some_tm, evO_tmp, op_assign, ↓reduceIte]; rfl) (WR.nil ⟨m - 1, by omega, j + 1, _, v', rfl, by omega, ?_, ?_, ?_, ?_, hF'⟩)
    · simp only [push_cast, tbH3_ty, Nat.reduceEqDiff, ↓reduceIte]
    · simp only [tmA_set, put_some_tm, Nat.reduceEqDiff, ↓reduceIte]
    · simp only [put_some_tm]
      repeat refine Keep.set ?_ (by decide)
      exact hK
    · rw [lenB, ← List.append_assoc, ← hq]; exact hB'
  · have hj : j = 8 := by have := of_decide_eq_false hb; omega
    subst hj
    refine k _ s v ?_ ?_ hB hFs
    · simp only [push_cast]
      repeat refine Keep.set ?_ (by decide)
      exact hK
    · simp only [push_cast, tbH3_ty, Nat.reduceEqDiff, ↓reduceIte, f3]
end Go.Proofs.Ae
namespace Go.Proofs.Ae
open Go.Proofs
set_option maxHeartbeats 4000000
def keep7 : List Nat := [3, 44, 45, 46, 47, 48, 49, 50, 51, 52]
theorem sum_blocks (sB : St) (x : Nat) (ws L : List Int) (h8 : ws.length = 8) (hL0 : L.length % 64 = 0) (hx : sB.next ≤ x) (hk : sB.get 4 = some (.cells (u32s kL) .ro)) (hok : sB.Ok) (a0 : AA) (sA : St) (Q : AX → AA → St → Prop) (v0 : Value)
    (e3 : tmA a0.tm 3 = v0) (e5 : tmA a0.tm 5 = .pointer (some ⟨x, 0, none⟩)) (hv : RS x sA v0 L) (hxA : sA.get x = some (.cells (u32s ws) .exact)) (hF : Fm Nil0 (bare sB) sA)
    (k : ∀ tm s, Keep keep7 a0.tm tm → s.get x = some (.cells (u32s (hfin ws L).1) .exact) → (hfin ws L).1.length = 8 → Fm Nil0 (bare sB) s → Q .normal ⟨tm, a0.df, a0.rnd, a0.fid⟩ s) :
    W tbH3 (.block 4 (.loop (.seq (.seq (.region 9 sum_9 false) (.cond (.tmp 46) .skip (.exit 4))) (.seq (.block 5 (.region 11 sum_10 true)) (.region 10 sum_11 false))))) a0 sA Q := by
  refine W.block (W.loop (fun m a s => ∃ (tm : Tr Value) (ws' L' : List Int) (v : Value), a = ⟨tm, a0.df, a0.rnd, a0.fid⟩ ∧ m = L'.length ∧ L'.length % 64 = 0 ∧ tmA tm 3 = v ∧ Keep keep7 a0.tm tm ∧ RS x s v L' ∧ s.get x = some (.cells (u32s ws') .exact) ∧ ws'.length = 8 ∧ Fm Nil0 (bare sB) s ∧ hfin ws' L' = hfin ws L) ?_ L.length a0 sA ⟨a0.tm, ws, L, v0, rfl, rfl, hL0, e3, Keep.refl _ _, hv, hxA, h8, hF, rfl⟩)
  rintro m a s ⟨tm, ws', L', v, rfl, rfl, hm, f3, hK, hR, hxs, h8', hFs, hfn⟩
  obtain ⟨va, vc, hvf⟩ := hR.form
  have f5 : tmA tm 5 = .pointer (some ⟨x, 0, none⟩) := by rw [hK 5 (by decide), e5]
  have h4l : 4 < sB.next := hok _ (hdom_of hk)
  have hk4 : s.get 4 = some (.cells (u32s kL) .ro) := by rw [hFs.old 4 h4l (fun e => e)]; exact hk
  have hxl : x < s.next := hFs.ok _ (hdom_of hxs)
  refine W.seq (W.seq (W.region ?_))
  refine WR.val rfl (by simp only [push_cast, tbH3_ty, Nat.reduceEqDiff, ↓reduceIte, f3]; rfl) ?_
  refine WR.val rfl (by simp only [push_cast, tbH3_ty, Nat.reduceEqDiff, ↓reduceIte, hvf]; rfl) ?_
  refine WR.val rfl (by simp only [push_cast, tbH3_ty, Nat.reduceEqDiff, ↓reduceIte]; rfl) ?_
  refine WR.nil (W.cond (b := decide ((0 : Int) < (L'.length : Int))) (by simp only [push_cast, ↓reduceIte]) (fun hb => W.skip ?_) (fun hb => W.exit ?_))
  · have hL : 64 ≤ L'.length := by have := of_decide_eq_true hb; omega
    cases hR with
    | nil => simp at hL
    | «at» b o L' hbh hB4 =>
    have hB4' : BytesAt s b o (L'.take 64) := hB4.take
    have ht64 : (L'.take 64).length = 64 := by rw [List.length_take]; omega
    refine W.seq (W.block (W.draw ?_))
    refine WD.q rfl rfl (by simp only [push_cast, tbH3_ty, Nat.reduceEqDiff, ↓reduceIte, f5]; exact ld287 (bare s) _ _ _ hxs h8') ?_
    refine WD.q rfl rfl (by simp only [push_cast, tbH3_ty, Nat.reduceEqDiff, ↓reduceIte, f3]; rfl) ?_
    refine WD.q rfl rfl (by simp only [push_cast, tbH3_ty, Nat.reduceEqDiff, ↓reduceIte]; exact sl_take _ _ _ _ _ rfl hL) ?_
    refine WD.call rfl rfl (by simp only [push_cast, tbH3_ty, Nat.reduceEqDiff, ↓reduceIte]; rfl) (CP.nat (by rfl) (nChg_eq (s := bare s) h8' ht64 (.inl rfl) hB4' hk4)) ?_ ?_
    · rintro _ _ ⟨rfl, rfl⟩
      exact apartB_empty _ _
    rintro _ _ ⟨rfl, rfl⟩
    rw [join_bare]
    refine WD.do rfl rfl (by simp only [push_cast, tbH3_ty, Nat.reduceEqDiff, ↓reduceIte, f5]; exact st287 (bare s) _ _ _ hxs h8' (chgW_len _ _ h8')) rfl ?_ (WD.nil ?_)
    · repeat first | exact apartB_nil _ _ | refine apartB_tag (by rfl) ?_ | refine apartB_skip rfl ?_
    rw [join_upd]
    have hx5 : (s.upd x (.cells (u32s (chgW ws' (L'.take 64))) .exact)).get x = some (.cells (u32s (chgW ws' (L'.take 64))) .exact) := St.get_upd_self _ _ _
    have hF5 := hFs.upd (.cells (u32s (chgW ws' (L'.take 64))) .exact) (i := x) (.inr hx) hxl
    have hB5 : BytesAt (s.upd x (.cells (u32s (chgW ws' (L'.take 64))) .exact)) b o L' := hB4.mono (St.get_upd_ne _ _ _ _ hbh)
    generalize s.upd x (.cells (u32s (chgW ws' (L'.take 64))) .exact) = s5 at hx5 hF5 hB5 ⊢
    have hxl5 : x < s5.next := hF5.ok _ (hdom_of hx5)
    obtain ⟨v6, s6, hsl, hR6, hs6⟩ := sl_drop x s5 b o (cap0 + 1) L' hbh hB5 rfl hL hxl5
    have hF6 : Fm Nil0 (bare sB) s6 := by
      rcases hs6 with rfl | rfl
      · exact hF5
      · exact hF5.alloc _
    have hx6 : s6.get x = some (.cells (u32s (chgW ws' (L'.take 64))) .exact) := by
      rcases hs6 with rfl | rfl
      · exact hx5
      · rw [St.get_alloc_ne _ _ _ (by omega), hx5]
    refine W.region ?_
    refine WR.val rfl (by simp only [push_cast, tbH3_ty, Nat.reduceEqDiff, ↓reduceIte, f3]; rfl) ?_
    refine WR.val rfl (by simp only [push_cast, tbH3_ty, Nat.reduceEqDiff, ↓reduceIte]; exact hsl) ?_
    refine WR.val rfl (by simp only [push_cast, tbH3_ty, Nat.reduceEqDiff, ↓reduceIte]; rfl) (WR.nil ⟨(L'.drop 64).length, by rw [List.length_drop]; omega, _, chgW ws' (L'.take 64), L'.drop 64, v6, rfl, rfl, by rw [List.length_drop]; omega, ?_, ?_, hR6, hx6, chgW_len _ _ h8', hF6, by rw [← hfn, hfin_step ws' L' hL]⟩)
    · simp only [push_cast, tbH3_ty, Nat.reduceEqDiff, ↓reduceIte]
    · simp only [push_cast]
      repeat refine Keep.set ?_ (by decide)
      exact hK
  · have hL : L'.length = 0 := by have := of_decide_eq_false hb; omega
    rw [hfin_end _ _ (by omega)] at hfn
    refine k _ s ?_ (by rw [← hfn]; exact hxs) (by rw [← hfn]; exact h8') hFs
    simp only [push_cast]
    repeat refine Keep.set ?_ (by decide)
    exact hK
theorem put_mid : ∀ (a b r vs : List Value), vs.length = b.length → putX (a ++ b ++ r) a.length vs = some (a ++ vs ++ r)
  | [], b, r, vs, h => by simpa using put_pre b r vs h
  | x :: a, b, r, vs, h => by rw [List.length_cons, List.cons_append, List.cons_append, putX_succ, put_mid a b r vs h]; rfl
theorem app_in (s : St) (ob n : Nat) (B X R : List Int) (hn : n = B.length) (h4 : X.length = 4) (hR : B.length + 4 + R.length = 32) (hg : s.get ob = some (.cells (u8s (B ++ [0, 0, 0, 0] ++ R)) .exact)) :
    appendS s 1 1 (some ⟨ob, 0, none⟩) n 32 4 (u8s X) = some (.slice (some ⟨ob, 0, none⟩) (n + 4) 32, s.upd ob (.cells (u8s (B ++ X ++ R)) .exact)) := by
  have hgd := app_guard X n (by omega)
  rw [h4] at hgd
  unfold appendS
  rw [hgd]
  have h1 : Nat.ble cap0 32 = false := rfl
  have h2 : Nat.ble (n + 4) 32 = true := Nat.ble_eq_true_of_le (by omega)
  have h3 : Nat.beq 4 0 = false := rfl
  have h5 : putX (u8s (B ++ [0, 0, 0, 0] ++ R)) n (u8s X) = some (u8s (B ++ X ++ R)) := by
    have := put_mid (u8s B) (u8s [0, 0, 0, 0]) (u8s R) (u8s X) (by rw [u8s_len, u8s_len, h4]; rfl)
    rw [u8s_len, ← hn] at this
    simpa [u8s] using this
  simp only [cond_true, h3, cond_false, h1, appendE, h2, Nat.mul_one, addA_none, Nat.zero_add, storeAt, hg, storeO, allOne_u8, h5]
def b4 (x : Int) : List Int := [IntKind.u8.wrap (shrI .u32 x 24), IntKind.u8.wrap (shrI .u32 x 16), IntKind.u8.wrap (shrI .u32 x 8), IntKind.u8.wrap x]
def outW (w : List Int) : Nat → List Int
  | 0 => []
  | j + 1 => outW w j ++ b4 (atI w j)
theorem outW_len (w : List Int) : ∀ j, (outW w j).length = 4 * j
  | 0 => rfl
  | j + 1 => by simp [outW, outW_len w j, b4]; omega
theorem ixv287 (s : St) (w : List Int) (k : IntKind) (i : Nat) (h : i < 8) (hw : w.length = 8) : indexA tyT s (.agg (u32s w).toArray) (.int k (i : Int)) (tyT.get 287) = some (.val (.int .u32 (atI w i)), s) := by
  obtain ⟨ti47, t47, d47, _⟩ := ty287
  obtain ⟨ti5, t5, d5, z5⟩ := ty267
  have h1 : Nat.ble (i + 1) 8 = true := Nat.ble_eq_true_of_le h
  have h2 : isOther ti5.d = false := by rw [d5]; rfl
  have h3 : isAggT ti5.d = false := by rw [d5]; rfl
  rw [t47]
  simp only [indexA, d47, t5]
  change (bif Nat.ble (i + 1) 8 then valO s (partT ti5 (u32s w).toArray.toList (i * ti5.size)) else none) = _
  rw [h1, z5]
  simp only [cond_true, partT, h2, h3, cond_false, take_one, dropX_eq, List.getElem?_drop, Nat.add_zero, Nat.mul_one, u32s_get (l := w) (i := i) (by omega), valO_so]
theorem app4 (s : St) (ob : Nat) (B X R : List Int) (n : Nat) (hn : n = B.length) (h4 : X.length = 4) (hR : B.length + 4 + R.length = 32) (hg : s.get ob = some (.cells (u8s (B ++ [0, 0, 0, 0] ++ R)) .exact)) (hob : ob < s.next) :
    builtinA tyT (s.alloc (.cells (u8s X) .exact)) .append [47, 47] [.slice (some ⟨ob, 0, none⟩) n 32, .slice (some ⟨s.next, 0, none⟩) 4 4] = some (.val (.slice (some ⟨ob, 0, none⟩) (n + 4) 32), (s.alloc (.cells (u8s X) .exact)).upd ob (.cells (u8s (B ++ X ++ R)) .exact)) := by
  obtain ⟨ti5, t5, d5, z5, y5⟩ := ty5b
  unfold builtinA
  simp only [List.head?_cons, List.tail_cons, elem47, t5, tyD47]
  have hc : cellsAt (s.alloc (.cells (u8s X) .exact)) ⟨s.next, 0, none⟩ (4 * 1) = some (u8s X) := by
    have := (BytesAt.all (St.get_alloc_self s (.cells (u8s X) .exact))).cells
    rw [h4] at this; exact this
  have := app_in (s.alloc (.cells (u8s X) .exact)) ob n B X R hn h4 hR (by rw [St.get_alloc_ne _ _ _ (by omega), hg])
  simp only [appendA, z5, y5]
  rw [hc]
  simp only [this]; rfl
end Go.Proofs.Ae
namespace Go.Proofs.Ae
open Go.Proofs
set_option maxHeartbeats 4000000
def keep8 : List Nat := [6, 8, 55, 56, 57, 58, 59, 60, 61, 62, 63, 64, 65, 66, 67, 68, 69, 70, 71, 72]
theorem repl_split (j : Nat) (h : j < 8) : List.replicate (32 - 4 * j) (0 : Int) = [0, 0, 0, 0] ++ List.replicate (32 - 4 * (j + 1)) 0 := by
  rw [show 32 - 4 * j = 4 + (32 - 4 * (j + 1)) from by omega, ← List.replicate_append_replicate]; rfl
theorem sum_out (sB : St) (ob : Nat) (w : List Int) (h8 : w.length = 8) (hob : sB.next ≤ ob) (a0 : AA) (sA : St) (Q : AX → AA → St → Prop)
    (e54 : tmA a0.tm 54 = .agg (u32s w).toArray) (e55 : tmA a0.tm 55 = .int .i64 0) (e6 : tmA a0.tm 6 = .slice (some ⟨ob, 0, none⟩) 0 32) (hg : sA.get ob = some (.cells (u8s (List.replicate 32 0)) .exact)) (hF : Fm Nil0 (bare sB) sA)
    (k : ∀ tm s, Keep keep8 a0.tm tm → tmA tm 6 = .slice (some ⟨ob, 0, none⟩) 32 32 → s.get ob = some (.cells (u8s (outW w 8)) .exact) → Fm Nil0 (bare sB) s → Q .normal ⟨tm, a0.df, a0.rnd, a0.fid⟩ s) :
    W tbH3 (.block 6 (.loop (.seq (.region 14 sum_14 false) (.seq (.cond (.tmp 56) .skip (.exit 6)) (.seq (.block 7 (.seq (.region 15 sum_15 false) (.region 16 sum_16 false))) (.region 17 sum_17 false)))))) a0 sA Q := by
  refine W.block (W.loop (fun m a s => ∃ (j : Nat) (tm : Tr Value), a = ⟨tm, a0.df, a0.rnd, a0.fid⟩ ∧ j + m = 8 ∧ tmA tm 55 = .int .i64 (j : Int) ∧ tmA tm 6 = .slice (some ⟨ob, 0, none⟩) (4 * j) 32 ∧ Keep keep8 a0.tm tm ∧ s.get ob = some (.cells (u8s (outW w j ++ List.replicate (32 - 4 * j) 0)) .exact) ∧ Fm Nil0 (bare sB) s) ?_ 8 a0 sA ⟨0, a0.tm, rfl, rfl, e55, e6, Keep.refl _ _, hg, hF⟩)
  rintro m a s ⟨j, tm, rfl, hm, f55, f6, hK, hgs, hFs⟩
  have f54 : tmA tm 54 = .agg (u32s w).toArray := by rw [hK 54 (by decide), e54]
  have hol : ob < s.next := hFs.ok _ (hdom_of hgs)
  refine W.seq (W.region ?_)
  refine WR.val rfl (by simp only [push_cast, tbH3_ty, Nat.reduceEqDiff, ↓reduceIte, f55]; rfl) (WR.nil ?_)
  refine W.seq (W.cond (b := decide ((j : Int) < 8)) (by simp only [push_cast, ↓reduceIte]) (fun hb => W.skip ?_) (fun hb => W.exit ?_))
  · have hj : j < 8 := by have := of_decide_eq_true hb; omega
    obtain ⟨n, hn⟩ : ∃ n : Nat, n = 4 * j := ⟨_, rfl⟩
    rw [← hn] at f6
    rw [repl_split j hj, ← List.append_assoc] at hgs
    have hap := app4 s ob (outW w j) (b4 (atI w j)) (List.replicate (32 - 4 * (j + 1)) 0) n (by rw [outW_len, hn]) rfl (by rw [outW_len]; simp; omega) hgs hol
    refine W.seq (W.block (W.seq (W.region ?_)))
    refine WR.val rfl (by simp only [push_cast, tbH3_ty, Nat.reduceEqDiff, ↓reduceIte, f54, f55]; exact ixv287 _ _ _ _ hj h8) ?_
    refine WR.val rfl (by simp only [push_cast, tbH3_ty, Nat.reduceEqDiff, ↓reduceIte]; rfl) ?_
    refine WR.nil (W.region ?_)
    refine WR.val rfl (by simp only [push_cast, tbH3_ty, Nat.reduceEqDiff, ↓reduceIte, f6]; rfl) ?_
    refine WR.val rfl (by simp only [push_cast, tbH3_ty, Nat.reduceEqDiff, ↓reduceIte]; rfl) ?_
    refine WR.val rfl (by simp only [push_cast, tbH3_ty, Nat.reduceEqDiff, ↓reduceIte]; rw [bin_shr _ _ _ _ _ _ _ _ _ rfl]; rfl) ?_
    refine WR.val rfl (by simp only [push_cast, tbH3_ty, Nat.reduceEqDiff, ↓reduceIte]; rfl) ?_
    refine WR.val rfl (by simp only [push_cast, tbH3_ty, Nat.reduceEqDiff, ↓reduceIte]; rfl) ?_
    refine WR.val rfl (by simp only [push_cast, tbH3_ty, Nat.reduceEqDiff, ↓reduceIte]; rw [bin_shr _ _ _ _ _ _ _ _ _ rfl]; rfl) ?_
    refine WR.val rfl (by simp only [push_cast, tbH3_ty, Nat.reduceEqDiff, ↓reduceIte]; rfl) ?_
    refine WR.val rfl (by simp only [push_cast, tbH3_ty, Nat.reduceEqDiff, ↓reduceIte]; rfl) ?_
    refine WR.val rfl (by simp only [push_cast, tbH3_ty, Nat.reduceEqDiff, ↓reduceIte]; rw [bin_shr _ _ _ _ _ _ _ _ _ rfl]; rfl) ?_
    refine WR.val rfl (by simp only [push_cast, tbH3_ty, Nat.reduceEqDiff, ↓reduceIte]; rfl) ?_
    refine WR.val rfl (by simp only [push_cast, tbH3_ty, Nat.reduceEqDiff, ↓reduceIte]; rfl) ?_
    refine WR.val rfl (by simp only [push_cast, tbH3_ty, Nat.reduceEqDiff, ↓reduceIte]; rfl) ?_
    refine WR.val rfl (by simp only [push_cast, tbH3_ty, Nat.reduceEqDiff, ↓reduceIte, elem47, evP_cons, evP_nil, List.toList_toArray]; exact bs4 _ _ _ _ _) ?_
    refine WR.val rfl (by simp only [push_cast, tbH3_ty, Nat.reduceEqDiff, ↓reduceIte]; exact hap) ?_
    refine WR.val rfl (by simp only [push_cast, tbH3_ty, Nat.reduceEqDiff, ↓reduceIte]; rfl) ?_
    refine WR.nil (W.region ?_)
    refine WR.val rfl (by simp only [push_cast, tbH3_ty, Nat.reduceEqDiff, ↓reduceIte, f55]; rfl) ?_
    refine WR.val rfl (by simp only [push_cast, tbH3_ty, Nat.reduceEqDiff, ↓reduceIte]; rfl) ?_
    have hF' := (hFs.alloc (.cells (u8s (b4 (atI w j))) .exact)).upd (.cells (u8s (outW w j ++ b4 (atI w j) ++ List.replicate (32 - 4 * (j + 1)) 0)) .exact) (i := ob) (.inr hob) (by simp; omega)
    refine WR.nil ⟨m - 1, by omega, j + 1, _, rfl, by omega, ?_, ?_, ?_, ?_, hF'⟩
    · simp only [push_cast, Nat.reduceEqDiff, ↓reduceIte]
      rw [show ((j : Int) + 1) = ((j + 1 : Nat) : Int) from by omega, i64_in _ (by omega)]
    · rw [show 4 * (j + 1) = n + 4 from by omega]
      simp only [push_cast, Nat.reduceEqDiff, ↓reduceIte]
    · simp only [push_cast]
      repeat refine Keep.set ?_ (by decide)
      exact hK
    · exact St.get_upd_self _ _ _
  · have hj : j = 8 := by have := of_decide_eq_false hb; omega
    subst hj
    refine k _ s ?_ ?_ ?_ hFs
    · simp only [push_cast]; exact hK.set (by decide)
    · simp only [push_cast, Nat.reduceEqDiff, ↓reduceIte, f6]
    · simpa using hgs
def padS (l : List Int) (many : Int) : List Int := l ++ [128] ++ List.replicate (zn l.length) 0 ++ lenB many 8
def sumW (ws l : List Int) (many : Int) : List Int := outW (hfin ws (padS l many)).1 8
theorem padS_len (l : List Int) (many : Int) : (padS l many).length % 64 = 0 := by
  simp only [padS, List.length_append, List.length_cons, List.length_nil, List.length_replicate, lenB_len, zn]
  omega
theorem BB.rs' {n0 x : Nat} {s s' : St} {v : Value} {l : List Int} (k : BB n0 s v l) (hok : s.Ok) (hx : s.next ≤ x) (e : ∀ i, i < s.next → s'.get i = s.get i) : RS x s' v l := by
  cases k with
  | nil => exact .nil
  | «at» b l hb hg =>
    have hbl : b < s.next := hok _ (hdom_of hg)
    exact .at b 0 _ (by omega) (BytesAt.all (m := .grow) (by rw [e b hbl, hg]))
theorem mk32 (s : St) : mkSliceA s (.int .i64 0) (.int .i64 32) (tyT.get 5) = some (.val (.slice (some ⟨s.next, 0, none⟩) 0 32), s.alloc (.cells (u8s (List.replicate 32 0)) .exact)) := by
  have : (tyT.get 5).map (fun ti => (ti.size, ti.bytes, ti.zero.cells.toList)) = some (1, 1, [.int .u8 0]) := by kernel_rfl
  cases hg : tyT.get 5 with
  | none => rw [hg] at this; cases this
  | some ti =>
    rw [hg] at this
    simp only [Option.map_some, Option.some.injEq, Prod.mk.injEq] at this
    have h1 : (Nat.ble 0 32 && Nat.ble (1 * 32) 140737488355328 && Nat.ble 1 1 && Nat.beq ([.int .u8 0] : List Value).length 1) = true := rfl
    change (bif Nat.ble 0 32 && Nat.ble (ti.bytes * 32) 140737488355328 && Nat.ble 1 ti.bytes && Nat.beq ti.zero.cells.toList.length ti.size then _ else none) = _
    rw [this.1, this.2.1, this.2.2, h1]
    rfl
theorem sum_C (s : St) (hok : s.Ok) (h : Nat) (ws l : List Int) (rv : Value) (many : Int) (hA : HA s h ws rv many) (hrv : RS h s rv l) (hb : l.length ≤ 100000) (hk : s.get 4 = some (.cells (u32s kL) .ro)) :
    CP tbH3 157 [.pointer (some ⟨h, 0, none⟩)] s (fun v s' => Fm Nil0 s s' ∧ ∃ ob, s.next ≤ ob ∧ v = .slice (some ⟨ob, 0, none⟩) 32 32 ∧ s'.get ob = some (.cells (u8s (sumW ws l many)) .exact)) := by
  refine CP.of rfl (by kernel_rfl) sum_body (Nat.le_of_ble_eq_true rfl) ?_
  have e0 : tmA (argsTr [.pointer (some ⟨h, 0, none⟩)] 0 .nil) 0 = .pointer (some ⟨h, 0, none⟩) := rfl
  generalize argsTr [.pointer (some ⟨h, 0, none⟩)] 0 .nil = t0 at e0 ⊢
  have hh : h < s.next := hA.lt hok
  have hF0 : Fm Nil0 (bare s) (bare s) := Fm.refl hok
  have h4l : 4 < s.next := hok _ (hdom_of hk)
  have hA0 : HA (bare s) h ws rv many := hA
  refine W.seq (W.region ?_)
  refine WR.val rfl (by simp only [push_cast, tbH3_ty, Nat.reduceEqDiff, ↓reduceIte]; rfl) (WR.nil ?_)
  obtain ⟨v2, s2, hap2, hF2, hB2, ho2⟩ := app_bytes (bare s) _ rv [] l hF0 .nil (hrv.mono (s' := bare s) fun _ _ _ => rfl).src (by simp; omega)
  rw [List.nil_append] at hB2
  obtain ⟨v3, s3, hap3, hF3, hB3⟩ := app_one s2 v2 l 128 hF2 hB2 (by omega)
  refine W.seq (W.region ?_)
  refine WR.val rfl (by simp only [push_cast, tbH3_ty, Nat.reduceEqDiff, ↓reduceIte, e0]; rfl) ?_
  refine WR.val rfl (by simp only [push_cast, tbH3_ty, Nat.reduceEqDiff, ↓reduceIte, e0]; rfl) ?_
  refine WR.val rfl (by simp only [push_cast, tbH3_ty, Nat.reduceEqDiff, ↓reduceIte]; exact fa289_1 _ _) ?_
  refine WR.val rfl (by simp only [push_cast, tbH3_ty, Nat.reduceEqDiff, ↓reduceIte]; exact ld47 _ _ _ _ hA0.rest) ?_
  refine WR.val rfl (by simp only [push_cast, tbH3_ty, Nat.reduceEqDiff, ↓reduceIte]; exact hap2) ?_
  refine WR.val rfl (by simp only [push_cast, tbH3_ty, Nat.reduceEqDiff, ↓reduceIte, elem47, evP_cons, evP_nil, List.toList_toArray]; exact bs1 _ _) ?_
  refine WR.val rfl (by simp only [push_cast, tbH3_ty, Nat.reduceEqDiff, ↓reduceIte]; exact hap3) ?_
  refine WR.val rfl (by simp only [push_cast, tbH3_ty, Nat.reduceEqDiff, ↓reduceIte]; rfl) (WR.nil ?_)
  refine W.seq (sum_zeros s (l ++ [128]) l.length (by simp) (by omega) _ s3 _ v3 ?_ hB3 hF3 ?_)
  · simp only [push_cast, tbH3_ty, Nat.reduceEqDiff, ↓reduceIte]
  intro tm4 s4 v4 hK4 f4 hB4 hF4
  refine W.seq (W.seq (W.region ?_))
  refine WR.val rfl (by simp only [push_cast, tbH3_ty, Nat.reduceEqDiff, ↓reduceIte]; rfl) (WR.nil ?_)
  refine sum_len s h ws rv many hA hok _ ?_ _ s4 _ v4 ?_ ?_ ?_ hB4 hF4 ?_
  · have : zn l.length < 64 := Nat.mod_lt _ (by omega)
    simp only [List.length_append, List.length_cons, List.length_nil, List.length_replicate]; omega
  · simp only [push_cast, tbH3_ty, Nat.reduceEqDiff, ↓reduceIte]
    rw [hK4 0 (by decide)]
    simp only [push_cast, tbH3_ty, Nat.reduceEqDiff, ↓reduceIte, e0]
  · simp only [push_cast, tbH3_ty, Nat.reduceEqDiff, ↓reduceIte, f4]
  · simp only [push_cast, tbH3_ty, Nat.reduceEqDiff, ↓reduceIte]
  intro tm5 s5 v5 hK5 f5 hB5 hF5
  have g0 : tmA tm5 0 = .pointer (some ⟨h, 0, none⟩) := by
    rw [hK5 0 (by decide)]
    simp only [push_cast, tbH3_ty, Nat.reduceEqDiff, ↓reduceIte]
    rw [hK4 0 (by decide)]
    simp only [push_cast, tbH3_ty, Nat.reduceEqDiff, ↓reduceIte, e0]
  have hA5 : HA s5 h ws rv many := hA.mono (hF5.old h hh (fun e => e))
  obtain ⟨ti287, t287, d287, z287, zz287⟩ := ty287
  refine W.seq (W.region ?_)
  refine WR.val rfl (by simp only [push_cast, tbH3_ty, Nat.reduceEqDiff, ↓reduceIte, g0]; rfl) ?_
  refine WR.val rfl (by simp only [push_cast, tbH3_ty, Nat.reduceEqDiff, ↓reduceIte]; rfl) ?_
  refine WR.val rfl (by simp only [push_cast, tbH3_ty, Nat.reduceEqDiff, ↓reduceIte]; exact fa289_0 _ _) ?_
  refine WR.val rfl (by simp only [push_cast, tbH3_ty, Nat.reduceEqDiff, ↓reduceIte]; exact hA5.loadW) ?_
  refine WR.val rfl (by simp only [push_cast, tbH3_ty, Nat.reduceEqDiff, ↓reduceIte, t287, zz287]; rfl) ?_
  refine WR.do rfl (by simp only [push_cast, tbH3_ty, Nat.reduceEqDiff, ↓reduceIte]; exact st287 _ _ [0, 0, 0, 0, 0, 0, 0, 0] ws (St.get_alloc_self _ _) rfl hA.2) (WR.nil ?_)
  have hx : s.next ≤ s5.next := hF5.next
  have hF6 := (hF5.alloc (.cells (u32s [0, 0, 0, 0, 0, 0, 0, 0]) .exact)).upd (.cells (u32s ws) .exact) (i := s5.next) (.inr hx) (by simp)
  have hx6 : ((s5.alloc (.cells (u32s [0, 0, 0, 0, 0, 0, 0, 0]) .exact)).upd s5.next (.cells (u32s ws) .exact)).get s5.next = some (.cells (u32s ws) .exact) := St.get_upd_self _ _ _
  have hR6 : RS s5.next ((s5.alloc (.cells (u32s [0, 0, 0, 0, 0, 0, 0, 0]) .exact)).upd s5.next (.cells (u32s ws) .exact)) v5 (padS l many) := by
    exact hB5.rs' hF5.ok (Nat.le_refl _) fun i hi => by rw [St.get_upd_ne _ _ _ _ (by omega), St.get_alloc_ne _ _ _ (by omega)]
  refine W.seq (sum_blocks s s5.next ws (padS l many) hA.2 (padS_len l many) hx hk hok _ _ _ v5 ?_ ?_ hR6 hx6 hF6 ?_)
  · simp only [push_cast, tbH3_ty, Nat.reduceEqDiff, ↓reduceIte, f5]
  · simp only [push_cast, tbH3_ty, Nat.reduceEqDiff, ↓reduceIte]
  intro tm7 s7 hK7 hx7 h87 hF7
  have g5 : tmA tm7 5 = .pointer (some ⟨s5.next, 0, none⟩) := by
    rw [hK7 5 (by decide)]
    simp only [push_cast, tbH3_ty, Nat.reduceEqDiff, ↓reduceIte]
  refine W.seq (W.region ?_)
  refine WR.val rfl (by simp only [push_cast, tbH3_ty, Nat.reduceEqDiff, ↓reduceIte, elem47]; exact mk32 _) ?_
  refine WR.val rfl (by simp only [push_cast, tbH3_ty, Nat.reduceEqDiff, ↓reduceIte]; rfl) (WR.nil ?_)
  have hxl : s5.next < s7.next := hF7.ok _ (hdom_of hx7)
  have hF8 := hF7.alloc (.cells (u8s (List.replicate 32 0)) .exact)
  refine W.seq (W.seq (W.region ?_))
  refine WR.val rfl (by simp only [push_cast, tbH3_ty, Nat.reduceEqDiff, ↓reduceIte, g5]; exact ld287 _ _ _ _ (by rw [St.get_alloc_ne _ _ _ (by omega)]; exact hx7) h87) ?_
  refine WR.val rfl (by simp only [push_cast, tbH3_ty, Nat.reduceEqDiff, ↓reduceIte]; rfl) (WR.nil ?_)
  refine sum_out s s7.next _ h87 hF7.next _ _ _ ?_ ?_ ?_ (St.get_alloc_self _ _) hF8 ?_
  · simp only [push_cast, tbH3_ty, Nat.reduceEqDiff, ↓reduceIte]
  · simp only [push_cast, tbH3_ty, Nat.reduceEqDiff, ↓reduceIte]
  · simp only [push_cast, tbH3_ty, Nat.reduceEqDiff, ↓reduceIte]
  intro tm9 s9 hK9 f9 hg9 hF9
  refine W.seq (W.region ?_)
  refine WR.val rfl (by simp only [push_cast, tbH3_ty, Nat.reduceEqDiff, ↓reduceIte, f9]; rfl) ?_
  refine WR.val rfl (by simp only [push_cast, tbH3_ty, Nat.reduceEqDiff, ↓reduceIte]; rfl) (WR.nil ?_)
  refine W.ret ⟨.inr rfl, rfl, [.slice (some ⟨s7.next, 0, none⟩) 32 32], ?_, Fm.keep hok hF9, s7.next, hF7.next, rfl, hg9⟩
  rw [show Tryz.f157.results.toList = [.tmp 2] from rfl, res1]
  simp only [push_cast, tbH3_ty, Nat.reduceEqDiff, ↓reduceIte]
end Go.Proofs.Ae
namespace Go.Proofs.Ae
open Go.Proofs
noncomputable def und_0 : Array Oper := opsAt Tryz.f154 [0]
noncomputable def und_1 : Array Oper := opsAt Tryz.f154 [1, 0]
noncomputable def und_2 : Array Oper := opsAt Tryz.f154 [1, 1, 0, 0]
noncomputable def und_3 : Array Oper := opsAt Tryz.f154 [1, 1, 0, 1, 0, 0, 0]
noncomputable def und_4 : Array Oper := opsAt Tryz.f154 [1, 1, 0, 1, 0, 0, 1, 1, 0, 0, 0]
noncomputable def und_5 : Array Oper := opsAt Tryz.f154 [1, 1, 0, 1, 0, 0, 1, 1, 0, 0, 1]
noncomputable def und_6 : Array Oper := opsAt Tryz.f154 [1, 1, 0, 1, 0, 0, 1, 1, 1]
noncomputable def und_7 : Array Oper := opsAt Tryz.f154 [1, 1, 1, 0]
noncomputable def und_8 : Array Oper := opsAt Tryz.f154 [1, 1, 1, 1, 0]
theorem und_body : Tryz.f154.body = some (.seq (.region 0 und_0 false) (.seq (.region 1 und_1 false) (.seq (.seq (.region 2 und_2 false) (.block 0 (.loop (.seq (.region 3 und_3 false) (.seq (.cond (.tmp 13) .skip (.exit 0)) (.seq (.block 1 (.seq (.region 4 und_4 false) (.region 5 und_5 false))) (.region 6 und_6 false))))))) (.seq (.region 7 und_7 false) (.seq (.region 8 und_8 false) .ret))))) := by kernel_rfl
noncomputable def hsum_0 : Array Oper := opsAt Tryz.f185 [0]
noncomputable def hsum_1 : Array Oper := opsAt Tryz.f185 [1, 0]
noncomputable def hsum_2 : Array Oper := opsAt Tryz.f185 [1, 1, 0]
noncomputable def hsum_3 : Array Oper := opsAt Tryz.f185 [1, 1, 1, 0]
theorem hsum_body : Tryz.f185.body = some (.seq (.region 0 hsum_0 false) (.seq (.region 1 hsum_1 false) (.seq (.region 2 hsum_2 false) (.seq (.region 3 hsum_3 false) .ret)))) := by kernel_rfl
set_option maxHeartbeats 4000000
theorem ty289z : ∃ ti, tyT.get 289 = some ti ∧ ti.d = .struct [(287, 0), (47, 8), (3, 9)] ∧ ti.size = 10 ∧ ti.zero.cells.toList = u32s [0, 0, 0, 0, 0, 0, 0, 0] ++ [Value.slice none 0 0, Value.int .i64 0] := tyZ (by kernel_rfl)
theorem build289 (s : St) (ws : List Int) (h8 : ws.length = 8) : buildA tyT s [(0, .agg (u32s ws).toArray)] (tyT.get 289) = some (.val (.agg (u32s ws ++ [Value.slice none 0 0, Value.int .i64 0]).toArray), s) := by
  obtain ⟨ti, t289, d289, z289, zz⟩ := ty289z
  obtain ⟨tw, t287, d287, z287, _⟩ := ty287
  have hl : Nat.beq (u32s ws).length 8 = true := by rw [u32s_len, h8]; rfl
  have hp : putX (u32s [0, 0, 0, 0, 0, 0, 0, 0] ++ [Value.slice none 0 0, Value.int .i64 0]) 0 (u32s ws) = some (u32s ws ++ [Value.slice none 0 0, Value.int .i64 0]) := put_pre _ _ _ (by rw [u32s_len, u32s_len, h8]; rfl)
  have hf : fieldAt tyT [(287, 0), (47, 8), (3, 9)] 0 = some (0, 8) := by simp only [fieldAt, List.getElem?_cons_zero, t287, z287]
  have : fillA (fieldAt tyT [(287, 0), (47, 8), (3, 9)]) [(0, .agg (u32s ws).toArray)] (u32s [0, 0, 0, 0, 0, 0, 0, 0] ++ [Value.slice none 0 0, Value.int .i64 0]) = some (u32s ws ++ [Value.slice none 0 0, Value.int .i64 0]) := by
    change (match fieldAt tyT [(287, 0), (47, 8), (3, 9)] 0 with
      | none => none
      | some (off, n) => bif Nat.beq (Value.agg (u32s ws).toArray).cells.toList.length n then
          match putX (u32s [0, 0, 0, 0, 0, 0, 0, 0] ++ [Value.slice none 0 0, Value.int .i64 0]) off (Value.agg (u32s ws).toArray).cells.toList with
          | some c' => some c'
          | none => none
        else none) = _
    simp only [hf, cells_agg, hl, cond_true, hp]
  rw [t289]
  simp only [buildA, d289, zz, this, aggO, valO_so]
theorem new_C (s : St) (hok : s.Ok) (hk : s.get 2 = some (.cells (u32s startW) .ro)) :
    CP tbH3 155 [] s (fun v s' => ∃ h, v = .pointer (some ⟨h, 0, none⟩) ∧ s.next ≤ h ∧ HA s' h startW (.slice none 0 0) 0 ∧ Fm Nil0 s s') := by
  refine CP.of rfl (by kernel_rfl) new_body (Nat.le_of_ble_eq_true rfl) ?_
  generalize argsTr [] 0 .nil = t0
  have hF0 : Fm Nil0 (bare s) (bare s) := Fm.refl hok
  refine W.seq (W.region ?_)
  refine WR.val rfl (by simp only [push_cast, tbH3_ty, Nat.reduceEqDiff, ↓reduceIte]; rfl) (WR.nil ?_)
  refine W.seq (W.region ?_)
  refine WR.val rfl (by simp only [push_cast, tbH3_ty, Nat.reduceEqDiff, ↓reduceIte]; exact ld287 (bare s) _ _ _ hk rfl) ?_
  refine WR.val rfl (by simp only [push_cast, tbH3_ty, Nat.reduceEqDiff, ↓reduceIte, evP_cons, evP_nil, List.toList_toArray]; exact build289 _ _ rfl) ?_
  refine WR.val rfl (by simp only [push_cast, tbH3_ty, Nat.reduceEqDiff, ↓reduceIte, cells_agg]; rfl) ?_
  refine WR.val rfl (by simp only [push_cast, tbH3_ty, Nat.reduceEqDiff, ↓reduceIte]; rfl) (WR.nil ?_)
  refine W.ret ⟨.inr rfl, rfl, [.pointer (some ⟨s.next, 0, none⟩)], ?_, s.next, rfl, Nat.le_refl _, ⟨St.get_alloc_self _ _, rfl⟩, Fm.keep hok (hF0.alloc _)⟩
  rw [show Tryz.f155.results.toList = [.tmp 0] from rfl, res1]
  simp only [push_cast, tbH3_ty, Nat.reduceEqDiff, ↓reduceIte]
  rfl
theorem hfin_rest : ∀ (n : Nat) (ws l : List Int), l.length = n → (hfin ws l).2.length = n % 64 := by
  intro n
  induction n using Nat.strongRecOn with
  | _ n ih =>
    intro ws l hn
    by_cases h : 64 ≤ l.length
    · rw [hfin_step ws l h, ih (n - 64) (by omega) _ _ (by rw [List.length_drop]; omega)]; omega
    · rw [hfin_end ws l (by omega)]; simp only; omega
def shaW (m : List Int) : List Int := sumW (hfin startW m).1 (hfin startW m).2 ((m.length : Nat) : Int)
theorem Fm.get {s0 s : St} (h : Fm Nil0 s0 s) {i : Nat} {o : AObj} (hg : s0.get i = some o) (hok : s0.Ok) : s.get i = some o := by rw [h.old i (hok _ (hdom_of hg)) (fun e => e), hg]
theorem Src.keep {s s' : St} {v : Value} {m : List Int} (k : Src s v m) (hok : s.Ok) (hF : Fm Nil0 s s') : Src s' v m := k.move fun b o n c e => hF.old b (hok _ (k.dom e)) (fun e => e)
theorem hsum_C (s : St) (hok : s.Ok) (bv : Value) (m : List Int) (hbv : Src s bv m) (hm : m.length ≤ 100000000000) (hk2 : s.get 2 = some (.cells (u32s startW) .ro)) (hk : s.get 4 = some (.cells (u32s kL) .ro)) :
    CP tbH3 185 [bv] s (fun v s' => Fm Nil0 s s' ∧ ∃ ob, s.next ≤ ob ∧ v = .slice (some ⟨ob, 0, none⟩) 32 32 ∧ s'.get ob = some (.cells (u8s (shaW m)) .exact)) := by
  refine CP.of rfl (by kernel_rfl) hsum_body (Nat.le_of_ble_eq_true rfl) ?_
  have e0 : tmA (argsTr [bv] 0 .nil) 0 = bv := rfl
  generalize argsTr [bv] 0 .nil = t0 at e0 ⊢
  have hokb : (bare s).Ok := hok
  refine W.seq (W.region ?_)
  refine WR.val rfl (by simp only [push_cast, tbH3_ty, Nat.reduceEqDiff, ↓reduceIte]; rfl) (WR.nil ?_)
  refine W.seq (W.region ?_)
  refine WR.call rfl (by simp only [push_cast, tbH3_ty, Nat.reduceEqDiff, ↓reduceIte]; rfl) (new_C (bare s) hokb hk2) ?_
  rintro _ s1 ⟨h, rfl, hh, hA1, hF1⟩
  refine WR.val rfl (by simp only [push_cast, tbH3_ty, Nat.reduceEqDiff, ↓reduceIte]; rfl) (WR.nil ?_)
  have hk1 : s1.get 4 = some (.cells (u32s kL) .ro) := hF1.get hk hokb
  have hb1 : Src s1 bv m := Src.keep (s := bare s) (hbv.mono (s' := bare s) fun _ _ => rfl) hokb hF1
  have hw := write_C s1 hF1.ok h startW [] m (.slice none 0 0) bv 0 hA1 .nil hb1 (fun b o n c e => by have : b < s.next := hok _ (hbv.dom e); have : s.next ≤ h := hh; omega) (by simp; omega) (by omega) hk1
  refine W.seq (W.region ?_)
  refine WR.val rfl (by simp only [push_cast, tbH3_ty, Nat.reduceEqDiff, ↓reduceIte]; rfl) ?_
  refine WR.val rfl (by simp only [push_cast, tbH3_ty, Nat.reduceEqDiff, ↓reduceIte, e0]; rfl) ?_
  refine WR.call rfl (by simp only [push_cast, tbH3_ty, Nat.reduceEqDiff, ↓reduceIte]; rfl) hw ?_
  rintro _ s2 ⟨rfl, hF2, rv', hA2, hR2⟩
  rw [List.nil_append, Nat.zero_add] at hA2
  rw [List.nil_append] at hR2
  refine WR.nil ?_
  have hF2' : Fm Nil0 (bare s) s2 := hF1.trans hF2 fun i e => .inr (by rw [e]; exact hh)
  have hk2' : s2.get 4 = some (.cells (u32s kL) .ro) := hF2'.get hk hokb
  have hs := sum_C s2 hF2'.ok h _ _ rv' _ hA2 hR2 (by rw [hfin_rest _ _ _ rfl]; omega) hk2'
  refine W.seq (W.region ?_)
  refine WR.val rfl (by simp only [push_cast, tbH3_ty, Nat.reduceEqDiff, ↓reduceIte]; rfl) ?_
  refine WR.call rfl (by simp only [push_cast, tbH3_ty, Nat.reduceEqDiff, ↓reduceIte]; rfl) hs ?_
  rintro _ s3 ⟨hF3, ob, hob, rfl, hg3⟩
  refine WR.val rfl (by simp only [push_cast, tbH3_ty, Nat.reduceEqDiff, ↓reduceIte]; rfl) (WR.nil ?_)
  have hF3' : Fm Nil0 (bare s) s3 := hF2'.trans hF3 fun i e => e.elim
  refine W.ret ⟨.inr rfl, rfl, [.slice (some ⟨ob, 0, none⟩) 32 32], ?_, Fm.keep hok hF3', ob, Nat.le_trans hF2'.next hob, rfl, hg3⟩
  rw [show Tryz.f185.results.toList = [.tmp 2] from rfl, res1]
  simp only [push_cast, tbH3_ty, Nat.reduceEqDiff, ↓reduceIte]
end Go.Proofs.Ae
namespace Go.Proofs.Ae
open Go.Proofs
set_option maxHeartbeats 4000000
def xor8 (a b : Int) : Int := bitI .u8 Nat.xor (· ^^^ ·) a b
def unW (own : List Int) (x : Int) : Nat → List Int × List Int
  | 0 => (startW, [])
  | j + 1 => hfin (unW own x j).1 ((unW own x j).2 ++ [xor8 (atI own j) x])
theorem unW_len (own : List Int) (x : Int) : ∀ j, (unW own x j).2.length < 64
  | 0 => by simp [unW]
  | j + 1 => by rw [unW, hfin_rest _ _ _ rfl]; omega
def keep9 : List Nat := [8, 12, 13, 14, 15, 16, 17, 18, 19, 20, 21, 22]
theorem und_loop (sB : St) (hok : sB.Ok) (h ob cap : Nat) (own : List Int) (x : Int) (hown : own.length = 64) (hh : sB.next ≤ h) (hB : BytesAt sB ob 0 own) (hk : sB.get 4 = some (.cells (u32s kL) .ro)) (a0 : AA) (sA : St) (Q : AX → AA → St → Prop)
    (e0 : tmA a0.tm 0 = .int .u8 x) (e6 : tmA a0.tm 6 = .pointer (some ⟨h, 0, none⟩)) (e10 : tmA a0.tm 10 = .slice (some ⟨ob, 0, none⟩) 64 cap) (e11 : tmA a0.tm 11 = .int .i64 64) (e12 : tmA a0.tm 12 = .int .i64 0)
    (hA : HA sA h startW (.slice none 0 0) 0) (hF : Fm Nil0 (bare sB) sA)
    (k : ∀ tm s rv, Keep keep9 a0.tm tm → HA s h (unW own x 64).1 rv ((64 : Nat) : Int) → RS h s rv (unW own x 64).2 → Fm Nil0 (bare sB) s → Q .normal ⟨tm, a0.df, a0.rnd, a0.fid⟩ s) :
    W tbH3 (.block 0 (.loop (.seq (.region 3 und_3 false) (.seq (.cond (.tmp 13) .skip (.exit 0)) (.seq (.block 1 (.seq (.region 4 und_4 false) (.region 5 und_5 false))) (.region 6 und_6 false)))))) a0 sA Q := by
  refine W.block (W.loop (fun m a s => ∃ (j : Nat) (tm : Tr Value) (rv : Value), a = ⟨tm, a0.df, a0.rnd, a0.fid⟩ ∧ j + m = 64 ∧ tmA tm 12 = .int .i64 (j : Int) ∧ Keep keep9 a0.tm tm ∧ HA s h (unW own x j).1 rv (j : Int) ∧ RS h s rv (unW own x j).2 ∧ Fm Nil0 (bare sB) s) ?_ 64 a0 sA ⟨0, a0.tm, _, rfl, rfl, e12, Keep.refl _ _, hA, .nil, hF⟩)
  rintro m a s ⟨j, tm, rv, rfl, hm, f12, hK, hAs, hRs, hFs⟩
  have f0 : tmA tm 0 = .int .u8 x := by rw [hK 0 (by decide), e0]
  have f6 : tmA tm 6 = .pointer (some ⟨h, 0, none⟩) := by rw [hK 6 (by decide), e6]
  have f10 : tmA tm 10 = .slice (some ⟨ob, 0, none⟩) 64 cap := by rw [hK 10 (by decide), e10]
  have f11 : tmA tm 11 = .int .i64 64 := by rw [hK 11 (by decide), e11]
  have hokb : (bare sB).Ok := hok
  refine W.seq (W.region ?_)
  refine WR.val rfl (by simp only [push_cast, tbH3_ty, Nat.reduceEqDiff, ↓reduceIte, f11, f12]; rfl) (WR.nil ?_)
  refine W.seq (W.cond (b := decide ((j : Int) < 64)) (by simp only [push_cast, ↓reduceIte]) (fun hb => W.skip ?_) (fun hb => W.exit ?_))
  · have hj : j < 64 := by have := of_decide_eq_true hb; omega
    have hcell : cell1 (0 + j) (s.get ob) = some (.int .u8 (atI own j)) := by
      obtain ⟨c, mo, hc, hcb⟩ := hB
      have : s.get ob = some (.cells c mo) := hFs.get (s0 := bare sB) hc hokb
      rw [this, cell1_some, hcb j (by omega)]
    refine W.seq (W.block (W.seq (W.region ?_)))
    refine WR.val rfl (by simp only [push_cast, tbH3_ty, Nat.reduceEqDiff, ↓reduceIte, f10, f12]; exact ix47 _ _ _ _ _ _ _ hj) ?_
    refine WR.val rfl (by simp only [push_cast, tbH3_ty, Nat.reduceEqDiff, ↓reduceIte]; exact ld5 _ _ _ _ hcell) ?_
    refine WR.val rfl (by simp only [push_cast, tbH3_ty, Nat.reduceEqDiff, ↓reduceIte]; rfl) ?_
    refine WR.nil (W.region ?_)
    have hF1 := hFs.alloc (.cells (u8s [xor8 (atI own j) x]) .exact)
    have hhl : h < s.next := hAs.lt hFs.ok
    have hA1 : HA (s.alloc (.cells (u8s [xor8 (atI own j) x]) .exact)) h (unW own x j).1 rv (j : Int) := hAs.mono (St.get_alloc_ne _ _ _ (by omega))
    have hR1 : RS h (s.alloc (.cells (u8s [xor8 (atI own j) x]) .exact)) rv (unW own x j).2 := hRs.mono fun i _ hi => St.get_alloc_ne _ _ _ (by have := hFs.ok i hi; omega)
    have hk1 : (s.alloc (.cells (u8s [xor8 (atI own j) x]) .exact)).get 4 = some (.cells (u32s kL) .ro) := hF1.get (s0 := bare sB) hk hokb
    have hlen := unW_len own x j
    have hw := write_C _ hF1.ok h (unW own x j).1 (unW own x j).2 [xor8 (atI own j) x] rv (.slice (some ⟨s.next, 0, none⟩) 1 1) j hA1 hR1 (.at s.next 0 1 [xor8 (atI own j) x] (BytesAt.all (St.get_alloc_self _ _))) (fun b o n c e => by
      simp only [Value.slice.injEq, Option.some.injEq, Addr.mk.injEq] at e; omega) (by simp; omega) (by simp; omega) hk1
    refine WR.val rfl (by simp only [push_cast, tbH3_ty, Nat.reduceEqDiff, ↓reduceIte, f6]; rfl) ?_
    refine WR.val rfl (by simp only [push_cast, tbH3_ty, Nat.reduceEqDiff, ↓reduceIte]; rfl) ?_
    refine WR.val rfl (by simp only [push_cast, tbH3_ty, Nat.reduceEqDiff, ↓reduceIte, f0]; rfl) ?_
    refine WR.val rfl (by simp only [push_cast, tbH3_ty, Nat.reduceEqDiff, ↓reduceIte]; rfl) ?_
    refine WR.val rfl (by simp only [push_cast, tbH3_ty, Nat.reduceEqDiff, ↓reduceIte, elem47, evP_cons, evP_nil, List.toList_toArray]; exact bs1 _ _) ?_
    refine WR.call rfl (by simp only [push_cast, tbH3_ty, Nat.reduceEqDiff, ↓reduceIte]; rfl) hw ?_
    rintro _ s2 ⟨rfl, hF2, rv', hA2, hR2⟩
    have hF2' : Fm Nil0 (bare sB) s2 := hF1.trans hF2 fun i e => .inr (by rw [e]; exact hh)
    refine WR.nil (W.region ?_)
    refine WR.val rfl (by simp only [push_cast, tbH3_ty, Nat.reduceEqDiff, ↓reduceIte, f12]; rfl) ?_
    refine WR.val rfl (by simp only [push_cast, tbH3_ty, Nat.reduceEqDiff, ↓reduceIte]; rfl) ?_
    refine WR.nil ⟨m - 1, by omega, j + 1, _, rv', rfl, by omega, ?_, ?_, hA2, hR2, hF2'⟩
    · simp only [push_cast, Nat.reduceEqDiff, ↓reduceIte]
      rw [show ((j : Int) + 1) = ((j + 1 : Nat) : Int) from by omega, i64_in _ (by omega)]
    · simp only [push_cast]
      repeat refine Keep.set ?_ (by decide)
      exact hK
  · have hj : j = 64 := by have := of_decide_eq_false hb; omega
    subst hj
    refine k _ s rv ?_ hAs hRs hFs
    simp only [push_cast]; exact hK.set (by decide)
def unF (own : List Int) (x : Int) (m : List Int) : List Int :=
  sumW (hfin (unW own x 64).1 ((unW own x 64).2 ++ m)).1 (hfin (unW own x 64).1 ((unW own x 64).2 ++ m)).2 ((64 + m.length : Nat) : Int)
theorem und_C (s : St) (hok : s.Ok) (c ob cap : Nat) (mo : Mode) (own : List Int) (x : Int) (bv : Value) (m : List Int) (hown : own.length = 64) (hB : BytesAt s ob 0 own) (hc : s.get c = some (.cells [.slice (some ⟨ob, 0, none⟩) 64 cap] mo))
    (hbv : Src s bv m) (hm : m.length ≤ 100000000000) (hk2 : s.get 2 = some (.cells (u32s startW) .ro)) (hk : s.get 4 = some (.cells (u32s kL) .ro)) :
    CP tbH3 154 [.int .u8 x, bv, .pointer (some ⟨c, 0, none⟩)] s (fun v s' => Fm Nil0 s s' ∧ ∃ rb, s.next ≤ rb ∧ v = .slice (some ⟨rb, 0, none⟩) 32 32 ∧ s'.get rb = some (.cells (u8s (unF own x m)) .exact)) := by
  refine CP.of rfl (by kernel_rfl) und_body (Nat.le_of_ble_eq_true rfl) ?_
  have e0 : tmA (argsTr [.int .u8 x, bv, .pointer (some ⟨c, 0, none⟩)] 0 .nil) 0 = .int .u8 x := rfl
  have e1 : tmA (argsTr [.int .u8 x, bv, .pointer (some ⟨c, 0, none⟩)] 0 .nil) 1 = bv := rfl
  have e2 : tmA (argsTr [.int .u8 x, bv, .pointer (some ⟨c, 0, none⟩)] 0 .nil) 2 = .pointer (some ⟨c, 0, none⟩) := rfl
  generalize argsTr [.int .u8 x, bv, .pointer (some ⟨c, 0, none⟩)] 0 .nil = t0 at e0 e1 e2 ⊢
  have hokb : (bare s).Ok := hok
  refine W.seq (W.region ?_)
  refine WR.val rfl (by simp only [push_cast, tbH3_ty, Nat.reduceEqDiff, ↓reduceIte]; rfl) (WR.nil ?_)
  refine W.seq (W.region ?_)
  refine WR.call rfl (by simp only [push_cast, tbH3_ty, Nat.reduceEqDiff, ↓reduceIte]; rfl) (new_C (bare s) hokb hk2) ?_
  rintro _ s1 ⟨h, rfl, hh, hA1, hF1⟩
  refine WR.val rfl (by simp only [push_cast, tbH3_ty, Nat.reduceEqDiff, ↓reduceIte]; rfl) (WR.nil ?_)
  have hc1 : cell1 0 (s1.get c) = some (.slice (some ⟨ob, 0, none⟩) 64 cap) := by rw [hF1.get (s0 := bare s) hc hokb]; rfl
  refine W.seq (W.seq (W.region ?_))
  refine WR.val rfl (by simp only [push_cast, tbH3_ty, Nat.reduceEqDiff, ↓reduceIte, e2]; exact ld47 _ _ _ _ hc1) ?_
  refine WR.val rfl (by simp only [push_cast, tbH3_ty, Nat.reduceEqDiff, ↓reduceIte]; rfl) ?_
  refine WR.val rfl (by simp only [push_cast, tbH3_ty, Nat.reduceEqDiff, ↓reduceIte]; rfl) (WR.nil ?_)
  refine und_loop s hok h ob cap own x hown hh hB hk _ s1 _ ?_ ?_ ?_ ?_ ?_ hA1 hF1 ?_
  · simp only [push_cast, tbH3_ty, Nat.reduceEqDiff, ↓reduceIte, e0]
  · simp only [push_cast, tbH3_ty, Nat.reduceEqDiff, ↓reduceIte]
  · simp only [push_cast, tbH3_ty, Nat.reduceEqDiff, ↓reduceIte]
  · simp only [push_cast, tbH3_ty, Nat.reduceEqDiff, ↓reduceIte]; rfl
  · simp only [push_cast, tbH3_ty, Nat.reduceEqDiff, ↓reduceIte]
  intro tm2 s2 rv hK2 hA2 hR2 hF2
  have g1 : tmA tm2 1 = bv := by
    rw [hK2 1 (by decide)]
    simp only [push_cast, tbH3_ty, Nat.reduceEqDiff, ↓reduceIte, e1]
  have g6 : tmA tm2 6 = .pointer (some ⟨h, 0, none⟩) := by
    rw [hK2 6 (by decide)]
    simp only [push_cast, tbH3_ty, Nat.reduceEqDiff, ↓reduceIte]
  have hb2 : Src s2 bv m := Src.keep (s := bare s) (hbv.mono (s' := bare s) fun _ _ => rfl) hokb hF2
  have hlen := unW_len own x 64
  have hw := write_C s2 hF2.ok h _ _ m rv bv 64 hA2 hR2 hb2 (fun b o n c e => by have : b < s.next := hok _ (hbv.dom e); have : s.next ≤ h := hh; omega) (by omega) (by omega) (hF2.get hk hokb)
  refine W.seq (W.region ?_)
  refine WR.val rfl (by simp only [push_cast, tbH3_ty, Nat.reduceEqDiff, ↓reduceIte, g6]; rfl) ?_
  refine WR.val rfl (by simp only [push_cast, tbH3_ty, Nat.reduceEqDiff, ↓reduceIte, g1]; rfl) ?_
  refine WR.call rfl (by simp only [push_cast, tbH3_ty, Nat.reduceEqDiff, ↓reduceIte]; rfl) hw ?_
  rintro _ s3 ⟨rfl, hF3, rv', hA3, hR3⟩
  refine WR.nil ?_
  have hF3' : Fm Nil0 (bare s) s3 := hF2.trans hF3 fun i e => .inr (by rw [e]; exact hh)
  have hs := sum_C s3 hF3'.ok h _ _ rv' _ hA3 hR3 (by rw [hfin_rest _ _ _ rfl]; omega) (hF3'.get hk hokb)
  refine W.seq (W.region ?_)
  refine WR.val rfl (by simp only [push_cast, tbH3_ty, Nat.reduceEqDiff, ↓reduceIte, g6]; rfl) ?_
  refine WR.call rfl (by simp only [push_cast, tbH3_ty, Nat.reduceEqDiff, ↓reduceIte]; rfl) hs ?_
  rintro _ s4 ⟨hF4, rb, hrb, rfl, hg4⟩
  refine WR.val rfl (by simp only [push_cast, tbH3_ty, Nat.reduceEqDiff, ↓reduceIte]; rfl) (WR.nil ?_)
  have hF4' : Fm Nil0 (bare s) s4 := hF3'.trans hF4 fun i e => e.elim
  refine W.ret ⟨.inr rfl, rfl, [.slice (some ⟨rb, 0, none⟩) 32 32], ?_, Fm.keep hok hF4', rb, Nat.le_trans hF3'.next hrb, rfl, hg4⟩
  rw [show Tryz.f154.results.toList = [.tmp 5] from rfl, res1]
  simp only [push_cast, tbH3_ty, Nat.reduceEqDiff, ↓reduceIte]
end Go.Proofs.Ae
namespace Go.Proofs.Ae
open Go.Proofs
noncomputable def mac_0 : Array Oper := opsAt Tryz.f90 [0]
noncomputable def mac_1 : Array Oper := opsAt Tryz.f90 [1, 0]
noncomputable def mac_2 : Array Oper := opsAt Tryz.f90 [1, 1, 0]
noncomputable def mac_3 : Array Oper := opsAt Tryz.f90 [1, 1, 1, 0]
theorem mac_body : Tryz.f90.body = some (.seq (.region 0 mac_0 false) (.seq (.region 1 mac_1 false) (.seq (.region 2 mac_2 false) (.seq (.region 3 mac_3 false) .ret)))) := by kernel_rfl
noncomputable def pad_0 : Array Oper := opsAt Tryz.f153 [0]
noncomputable def pad_1 : Array Oper := opsAt Tryz.f153 [1, 0]
noncomputable def pad_2 : Array Oper := opsAt Tryz.f153 [1, 1, 0, 0]
noncomputable def pad_3 : Array Oper := opsAt Tryz.f153 [1, 1, 0, 1, 0]
noncomputable def pad_4 : Array Oper := opsAt Tryz.f153 [1, 1, 1, 0]
noncomputable def pad_5 : Array Oper := opsAt Tryz.f153 [1, 1, 1, 1, 0]
noncomputable def pad_6 : Array Oper := opsAt Tryz.f153 [1, 1, 1, 1, 1, 0]
theorem pad_body : Tryz.f153.body = some (.seq (.region 0 pad_0 false) (.seq (.region 1 pad_1 false) (.seq (.seq (.region 2 pad_2 false) (.cond (.tmp 9) (.region 3 pad_3 false) .skip)) (.seq (.region 4 pad_4 false) (.seq (.region 5 pad_5 false) (.seq (.region 6 pad_6 false) .ret)))))) := by kernel_rfl
set_option maxHeartbeats 4000000
def strI (b : ByteArray) : List Int := b.data.toList.map fun c => ((c.toNat : Nat) : Int)
theorem bytesV_strI (b : ByteArray) : bytesV b.data.toList = u8s (strI b) := by rw [bytesV_eq]; simp [u8s, strI]
theorem strI_len (b : ByteArray) : (strI b).length = b.data.toList.length := by simp [strI]
theorem tyD9 : tyD tyT (some 9) = .string := by kernel_rfl
attribute [push_cast] tyD9
theorem conv_bytes (s : St) (same : Bool) (b : ByteArray) : convA tyT s same .string (.slice 5) (.string b) = some (.val (.slice (some ⟨s.next, 0, none⟩) (strI b).length (cap0 + 1)), s.alloc (.cells (u8s (strI b)) .grow)) := by
  have h : isU8 (tyT.get 5) = true := by
    obtain ⟨ti, t5, d5, _⟩ := ty5
    rw [t5]; simp only [isU8, d5]
  rw [strI_len, ← bytesV_strI]
  simp only [convA, h, cond_true]
set_option maxRecDepth 20000 in
theorem mk64 (s : St) : mkSliceA s (.int .i64 64) (.int .i64 64) (tyT.get 5) = some (.val (.slice (some ⟨s.next, 0, none⟩) 64 64), s.alloc (.cells (u8s (List.replicate 64 0)) .exact)) := by
  have : (tyT.get 5).map (fun ti => (ti.size, ti.bytes, ti.zero.cells.toList)) = some (1, 1, [.int .u8 0]) := by kernel_rfl
  cases hg : tyT.get 5 with
  | none => rw [hg] at this; cases this
  | some ti =>
    rw [hg] at this
    simp only [Option.map_some, Option.some.injEq, Prod.mk.injEq] at this
    have h1 : (Nat.ble 64 64 && Nat.ble (1 * 64) 140737488355328 && Nat.ble 1 1 && Nat.beq ([.int .u8 0] : List Value).length 1) = true := rfl
    change (bif Nat.ble 64 64 && Nat.ble (ti.bytes * 64) 140737488355328 && Nat.ble 1 ti.bytes && Nat.beq ti.zero.cells.toList.length ti.size then _ else none) = _
    rw [this.1, this.2.1, this.2.2, h1]
    rfl
theorem copy_to (s : St) (ob : Nat) (v : Value) (B : List Int) (hB : Src s v B) (hl : B.length ≤ 64) (hg : s.get ob = some (.cells (u8s (List.replicate 64 0)) .exact)) {A : Nat → Prop} {s0 : St} (hF : Fm A s0 s) (ho : s0.next ≤ ob) :
    ∃ n s', builtinA tyT s .copy [47, 47] [.slice (some ⟨ob, 0, none⟩) 64 64, v] = some (.val n, s') ∧ s'.get ob = some (.cells (u8s (B ++ List.replicate (64 - B.length) 0)) .exact) ∧ Fm A s0 s' := by
  obtain ⟨ti5, t5, d5, z5, y5⟩ := ty5b
  have hol : ob < s.next := hF.ok _ (hdom_of hg)
  unfold builtinA
  simp only [List.head?_cons, List.tail_cons, elem47, t5]
  cases hB with
  | nil => exact ⟨_, s, rfl, by simpa using hg, hF⟩
  | «at» b o c B h =>
    have hc := h.cells
    have hmin : min B.length 64 = B.length := by omega
    cases B with
    | nil =>
      refine ⟨.int .i64 0, s, ?_, by simpa using hg, hF⟩
      simp only [copyA, hmin, z5, Nat.mul_one, hc]
      rfl
    | cons x B =>
      refine ⟨.int .i64 (x :: B).length, s.upd ob (.cells (u8s (x :: B ++ List.replicate (64 - (x :: B).length) 0)) .exact), ?_, St.get_upd_self _ _ _, hF.upd _ (.inr ho) hol⟩
      simp only [copyA, hmin, z5, Nat.mul_one, hc]
      have hp : putX (u8s (List.replicate 64 0)) 0 (u8s (x :: B)) = some (u8s (x :: B ++ List.replicate (64 - (x :: B).length) 0)) := by
        have h1 : List.replicate 64 (0 : Int) = List.replicate (x :: B).length 0 ++ List.replicate (64 - (x :: B).length) 0 := by rw [List.replicate_append_replicate]; congr 1; omega
        have h2 := put_pre (u8s (List.replicate (x :: B).length 0)) (u8s (List.replicate (64 - (x :: B).length) 0)) (u8s (x :: B)) (by rw [u8s_len, u8s_len, List.length_replicate])
        rw [h1]
        simpa [u8s] using h2
      have hs : storeAt s ⟨ob, 0, none⟩ (u8s (x :: B)) = some (s.upd ob (.cells (u8s (x :: B ++ List.replicate (64 - (x :: B).length) 0)) .exact)) := by
        simp only [storeAt, hg, storeO, allOne_u8, cond_true, hp]
      change (match storeAt s ⟨ob, 0, none⟩ (u8s (x :: B)) with
        | some s' => some (AR.val (.int .i64 ((x :: B).length : Nat)), s')
        | none => none) = _
      rw [hs]
def baseW (sb : List Int) : List Int := if sb.length ≤ 64 then sb else shaW sb
def padW (sb : List Int) : List Int := baseW sb ++ List.replicate (64 - (baseW sb).length) 0
theorem shaW_len (m : List Int) : (shaW m).length = 32 := by rw [shaW, sumW, outW_len]
theorem baseW_len (sb : List Int) : (baseW sb).length ≤ 64 := by
  unfold baseW
  split
  · assumption
  · rw [shaW_len]; omega
theorem padW_len (sb : List Int) : (padW sb).length = 64 := by
  have := baseW_len sb
  rw [padW, List.length_append, List.length_replicate]; omega
theorem pad_C (s : St) (hok : s.Ok) (b : ByteArray) (hb : (strI b).length ≤ 100000000000) (hk2 : s.get 2 = some (.cells (u32s startW) .ro)) (hk : s.get 4 = some (.cells (u32s kL) .ro)) :
    CP tbH3 153 [.string b] s (fun v s' => Fm Nil0 s s' ∧ ∃ ob, s.next ≤ ob ∧ v = .slice (some ⟨ob, 0, none⟩) 64 64 ∧ s'.get ob = some (.cells (u8s (padW (strI b))) .exact)) := by
  refine CP.of rfl (by kernel_rfl) pad_body (Nat.le_of_ble_eq_true rfl) ?_
  have e0 : tmA (argsTr [.string b] 0 .nil) 0 = .string b := rfl
  generalize argsTr [.string b] 0 .nil = t0 at e0 ⊢
  have hokb : (bare s).Ok := hok
  have hF0 : Fm Nil0 (bare s) (bare s) := Fm.refl hok
  refine W.seq (W.region ?_)
  refine WR.val rfl (by simp only [push_cast, tbH3_ty, Nat.reduceEqDiff, ↓reduceIte]; rfl) (WR.nil ?_)
  refine W.seq (W.region ?_)
  refine WR.val rfl (by simp only [push_cast, tbH3_ty, Nat.reduceEqDiff, ↓reduceIte, e0]; rfl) ?_
  refine WR.val rfl (by simp only [push_cast, tbH3_ty, Nat.reduceEqDiff, ↓reduceIte]; exact conv_bytes _ _ _) ?_
  refine WR.val rfl (by simp only [push_cast, tbH3_ty, Nat.reduceEqDiff, ↓reduceIte]; rfl) (WR.nil ?_)
  have hF1 := hF0.alloc (.cells (u8s (strI b)) .grow)
  have hS1 : Src ((bare s).alloc (.cells (u8s (strI b)) .grow)) (.slice (some ⟨s.next, 0, none⟩) (strI b).length (cap0 + 1)) (strI b) := .at s.next 0 _ _ (BytesAt.all (m := .grow) (St.get_alloc_self _ _))
  have hk21 : ((bare s).alloc (.cells (u8s (strI b)) .grow)).get 2 = some (.cells (u32s startW) .ro) := hF1.get (s0 := bare s) hk2 hokb
  have hk1 : ((bare s).alloc (.cells (u8s (strI b)) .grow)).get 4 = some (.cells (u32s kL) .ro) := hF1.get (s0 := bare s) hk hokb
  generalize (bare s).alloc (.cells (u8s (strI b)) .grow) = s1 at hF1 hS1 hk21 hk1 ⊢
  refine W.seq (W.mono (Q := fun x a s2 => x = .normal ∧ a.df = [] ∧ Fm Nil0 (bare s) s2 ∧ ∃ v, tmA a.tm 3 = v ∧ Src s2 v (baseW (strI b))) ?_ ?_)
  · refine W.seq (W.region ?_)
    refine WR.val rfl (by simp only [push_cast, tbH3_ty, Nat.reduceEqDiff, ↓reduceIte]; rfl) ?_
    refine WR.val rfl (by simp only [push_cast, tbH3_ty, Nat.reduceEqDiff, ↓reduceIte]; rfl) ?_
    refine WR.val rfl (by simp only [push_cast, tbH3_ty, Nat.reduceEqDiff, ↓reduceIte]; rfl) (WR.nil ?_)
    refine W.cond (b := decide ((64 : Int) < ((strI b).length : Int))) (by simp only [push_cast, ↓reduceIte]) (fun hc => W.region ?_) (fun hc => W.skip ?_)
    · have hc : 64 < (strI b).length := by have := of_decide_eq_true hc; omega
      refine WR.val rfl (by simp only [push_cast, tbH3_ty, Nat.reduceEqDiff, ↓reduceIte]; rfl) ?_
      refine WR.call rfl (by simp only [push_cast, tbH3_ty, Nat.reduceEqDiff, ↓reduceIte]; rfl) (hsum_C s1 hF1.ok _ (strI b) hS1 hb hk21 hk1) ?_
      rintro _ s2 ⟨hF2, ob, hob, rfl, hg2⟩
      refine WR.val rfl (by simp only [push_cast, tbH3_ty, Nat.reduceEqDiff, ↓reduceIte]; rfl) (WR.nil ⟨rfl, rfl, hF1.trans hF2 fun i e => e.elim, .slice (some ⟨ob, 0, none⟩) 32 32, ?_, ?_⟩)
      · simp only [push_cast, tbH3_ty, Nat.reduceEqDiff, ↓reduceIte]
      · have : baseW (strI b) = shaW (strI b) := if_neg (by omega)
        rw [this]
        have h32 := shaW_len (strI b)
        have := Src.at (s := s2) ob 0 32 (shaW (strI b)) (BytesAt.all hg2)
        rw [h32] at this
        exact this
    · have hc : (strI b).length ≤ 64 := by have := of_decide_eq_false hc; omega
      refine ⟨rfl, rfl, hF1, .slice (some ⟨s.next, 0, none⟩) (strI b).length (cap0 + 1), ?_, ?_⟩
      · simp only [push_cast, tbH3_ty, Nat.reduceEqDiff, ↓reduceIte]
        rfl
      · have : baseW (strI b) = strI b := if_pos hc
        rw [this]
        exact hS1
  rintro x a s2 ⟨rfl, hdf, hF2, v, hv3, hSv⟩
  obtain ⟨tm, df, rnd, fid⟩ := a
  simp only at hdf hv3
  subst hdf
  have hF3 := hF2.alloc (.cells (u8s (List.replicate 64 0)) .exact)
  have hS3 : Src (s2.alloc (.cells (u8s (List.replicate 64 0)) .exact)) v (baseW (strI b)) := hSv.mono fun i hi => St.get_alloc_ne _ _ _ (by have := hF2.ok i hi; omega)
  obtain ⟨n, s4, hcp, hg4, hF4⟩ := copy_to _ s2.next v _ hS3 (baseW_len _) (St.get_alloc_self _ _) hF3 hF2.next
  refine W.seq (W.region ?_)
  refine WR.val rfl (by simp only [push_cast, tbH3_ty, Nat.reduceEqDiff, ↓reduceIte, elem47]; exact mk64 _) ?_
  refine WR.val rfl (by simp only [push_cast, tbH3_ty, Nat.reduceEqDiff, ↓reduceIte]; rfl) (WR.nil ?_)
  refine W.seq (W.region ?_)
  refine WR.val rfl (by simp only [push_cast, tbH3_ty, Nat.reduceEqDiff, ↓reduceIte]; rfl) ?_
  refine WR.val rfl (by simp only [push_cast, tbH3_ty, Nat.reduceEqDiff, ↓reduceIte, hv3]; rfl) ?_
  refine WR.val rfl (by simp only [push_cast, tbH3_ty, Nat.reduceEqDiff, ↓reduceIte]; exact hcp) (WR.nil ?_)
  refine W.seq (W.region ?_)
  refine WR.val rfl (by simp only [push_cast, tbH3_ty, Nat.reduceEqDiff, ↓reduceIte]; rfl) ?_
  refine WR.val rfl (by simp only [push_cast, tbH3_ty, Nat.reduceEqDiff, ↓reduceIte]; rfl) (WR.nil ?_)
  refine W.ret ⟨.inr rfl, rfl, [.slice (some ⟨s2.next, 0, none⟩) 64 64], ?_, Fm.keep hok hF4, s2.next, hF2.next, rfl, hg4⟩
  rw [show Tryz.f153.results.toList = [.tmp 2] from rfl, res1]
  simp only [push_cast, tbH3_ty, Nat.reduceEqDiff, ↓reduceIte]
end Go.Proofs.Ae
namespace Go.Proofs.Ae
open Go.Proofs
set_option maxHeartbeats 4000000
def macW (sb m : List Int) : List Int := unF (padW sb) 92 (unF (padW sb) 54 m)
theorem unF_len (own : List Int) (x : Int) (m : List Int) : (unF own x m).length = 32 := by rw [unF, sumW, outW_len]
theorem mac_C (s : St) (hok : s.Ok) (b : ByteArray) (bv : Value) (m : List Int) (hb : (strI b).length ≤ 100000000000) (hbv : Src s bv m) (hm : m.length ≤ 100000000000) (hk2 : s.get 2 = some (.cells (u32s startW) .ro)) (hk : s.get 4 = some (.cells (u32s kL) .ro)) :
    CP tbH3 90 [.string b, bv] s (fun v s' => Fm Nil0 s s' ∧ ∃ rb, s.next ≤ rb ∧ v = .slice (some ⟨rb, 0, none⟩) 32 32 ∧ s'.get rb = some (.cells (u8s (macW (strI b) m)) .exact)) := by
  refine CP.of rfl (by kernel_rfl) mac_body (Nat.le_of_ble_eq_true rfl) ?_
  have e0 : tmA (argsTr [.string b, bv] 0 .nil) 0 = .string b := rfl
  have e1 : tmA (argsTr [.string b, bv] 0 .nil) 1 = bv := rfl
  generalize argsTr [.string b, bv] 0 .nil = t0 at e0 e1 ⊢
  have hokb : (bare s).Ok := hok
  refine W.seq (W.region ?_)
  refine WR.val rfl (by simp only [push_cast, tbH3_ty, Nat.reduceEqDiff, ↓reduceIte]; rfl) (WR.nil ?_)
  obtain ⟨ti47, t47, d47, z47, zz47⟩ : ∃ ti, tyT.get 47 = some ti ∧ ti.d = .slice 5 ∧ ti.size = 1 ∧ ti.zero.cells.toList = [.slice none 0 0] := tyZ (by kernel_rfl)
  refine W.seq (W.region ?_)
  refine WR.val rfl (by simp only [push_cast, tbH3_ty, Nat.reduceEqDiff, ↓reduceIte, e0]; rfl) ?_
  refine WR.call rfl (by simp only [push_cast, tbH3_ty, Nat.reduceEqDiff, ↓reduceIte]; rfl) (pad_C (bare s) hokb b hb hk2 hk) ?_
  rintro _ s1 ⟨hF1, ob, hob, rfl, hg1⟩
  refine WR.val rfl (by simp only [push_cast, tbH3_ty, Nat.reduceEqDiff, ↓reduceIte, t47, zz47]; rfl) ?_
  refine WR.do rfl (by simp only [push_cast, tbH3_ty, Nat.reduceEqDiff, ↓reduceIte, t47]; exact store_one ti47 _ s1.next 0 (.slice (some ⟨ob, 0, none⟩) 64 64) _ _ z47 rfl (St.get_alloc_self _ _) (by simp) (by simp)) (WR.nil ?_)
  have hobl : ob < s1.next := hF1.ok _ (hdom_of hg1)
  have hF2 := (hF1.alloc (.cells [.slice none 0 0] .exact)).upd (.cells (([.slice none 0 0] : List Value).set 0 (.slice (some ⟨ob, 0, none⟩) 64 64)) .exact) (i := s1.next) (.inr hF1.next) (by simp)
  have hc2 : ((s1.alloc (.cells [.slice none 0 0] .exact)).upd s1.next (.cells (([.slice none 0 0] : List Value).set 0 (.slice (some ⟨ob, 0, none⟩) 64 64)) .exact)).get s1.next = some (.cells [.slice (some ⟨ob, 0, none⟩) 64 64] .exact) := St.get_upd_self _ _ _
  have hg2 : ((s1.alloc (.cells [.slice none 0 0] .exact)).upd s1.next (.cells (([.slice none 0 0] : List Value).set 0 (.slice (some ⟨ob, 0, none⟩) 64 64)) .exact)).get ob = some (.cells (u8s (padW (strI b))) .exact) := by
    rw [St.get_upd_ne _ _ _ _ (by omega), St.get_alloc_ne _ _ _ (by omega), hg1]
  obtain ⟨c, hcn⟩ : ∃ c, c = s1.next := ⟨_, rfl⟩
  rw [← hcn] at hc2 hg2 hF2 ⊢
  generalize (s1.alloc (.cells [.slice none 0 0] .exact)).upd c (.cells (([.slice none 0 0] : List Value).set 0 (.slice (some ⟨ob, 0, none⟩) 64 64)) .exact) = s2 at hF2 hc2 hg2 ⊢
  refine W.seq (W.region ?_)
  refine WR.val rfl (by simp only [push_cast, tbH3_ty, Nat.reduceEqDiff, ↓reduceIte]; rfl) ?_
  refine WR.val rfl (by simp only [push_cast, tbH3_ty, Nat.reduceEqDiff, ↓reduceIte]; rfl) (WR.nil ?_)
  have hb2 : Src s2 bv m := Src.keep (s := bare s) (hbv.mono (s' := bare s) fun _ _ => rfl) hokb hF2
  refine W.seq (W.region ?_)
  iterate 2 refine WR.val rfl (by simp only [push_cast, tbH3_ty, Nat.reduceEqDiff, ↓reduceIte]; rfl) ?_
  refine WR.val rfl (by simp only [push_cast, tbH3_ty, Nat.reduceEqDiff, ↓reduceIte, e1]; rfl) ?_
  refine WR.call rfl (by simp only [push_cast, tbH3_ty, Nat.reduceEqDiff, ↓reduceIte]; rfl) (und_C s2 hF2.ok c ob 64 _ (padW (strI b)) 54 bv m (padW_len _) (BytesAt.all hg2) hc2 hb2 hm (hF2.get (s0 := bare s) hk2 hokb) (hF2.get (s0 := bare s) hk hokb)) ?_
  rintro _ s3 ⟨hF3, rb, hrb, rfl, hg3⟩
  have hF3' : Fm Nil0 (bare s) s3 := hF2.trans hF3 fun i e => e.elim
  have hS3 : Src s3 (.slice (some ⟨rb, 0, none⟩) 32 32) (unF (padW (strI b)) 54 m) := by
    have := Src.at (s := s3) rb 0 32 _ (BytesAt.all hg3)
    rw [unF_len] at this
    exact this
  refine WR.call rfl (by simp only [push_cast, tbH3_ty, Nat.reduceEqDiff, ↓reduceIte]; rfl) (und_C s3 hF3'.ok c ob 64 _ (padW (strI b)) 92 _ (unF (padW (strI b)) 54 m) (padW_len _) (BytesAt.all (hF3.get hg2 hF2.ok)) (hF3.get hc2 hF2.ok) hS3 (by rw [unF_len]; omega) (hF3'.get (s0 := bare s) hk2 hokb) (hF3'.get (s0 := bare s) hk hokb)) ?_
  rintro _ s4 ⟨hF4, rb4, hrb4, rfl, hg4⟩
  have hF4' : Fm Nil0 (bare s) s4 := hF3'.trans hF4 fun i e => e.elim
  refine WR.val rfl (by simp only [push_cast, tbH3_ty, Nat.reduceEqDiff, ↓reduceIte]; rfl) (WR.nil ?_)
  refine W.ret ⟨.inr rfl, rfl, [.slice (some ⟨rb4, 0, none⟩) 32 32], ?_, Fm.keep hok hF4', rb4, Nat.le_trans hF3'.next hrb4, rfl, hg4⟩
  rw [show Tryz.f90.results.toList = [.tmp 4] from rfl, res1]
  simp only [push_cast, tbH3_ty, Nat.reduceEqDiff, ↓reduceIte]
end Go.Proofs.Ae
