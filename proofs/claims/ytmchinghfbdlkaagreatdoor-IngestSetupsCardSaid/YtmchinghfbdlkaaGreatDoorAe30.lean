/- A part of the proof that the program's function answers true: lemmas (So5 to Z1) on carrying the program out over names of memory objects. No condition. -/
import Derived.Test.YtmchinghfbdlkaaGreatDoorAe29
set_option linter.unusedVariables false
set_option linter.unusedSimpArgs false
namespace Go.Proofs.Ae
open Go.Proofs
theorem so_all (n : Nat) (h1 : 4 ≤ n) (h2 : n ≤ 60) : ∃ sec st, 12 < sec ∧ sec < st ∧ SoP n sec st := by
  match n, h1, h2 with
  | 4, _, _ => exact ⟨141, 147, by omega, by omega, so4⟩
  | 5, _, _ => exact ⟨141, 147, by omega, by omega, so5⟩
  | 6, _, _ => exact ⟨150, 156, by omega, by omega, so6⟩
  | 7, _, _ => exact ⟨150, 156, by omega, by omega, so7⟩
  | 8, _, _ => exact ⟨159, 165, by omega, by omega, so8⟩
  | 9, _, _ => exact ⟨159, 165, by omega, by omega, so9⟩
  | 10, _, _ => exact ⟨168, 174, by omega, by omega, so10⟩
  | 11, _, _ => exact ⟨168, 174, by omega, by omega, so11⟩
  | 12, _, _ => exact ⟨177, 183, by omega, by omega, so12⟩
  | 13, _, _ => exact ⟨177, 183, by omega, by omega, so13⟩
  | 14, _, _ => exact ⟨186, 192, by omega, by omega, so14⟩
  | 15, _, _ => exact ⟨186, 192, by omega, by omega, so15⟩
  | 16, _, _ => exact ⟨195, 201, by omega, by omega, so16⟩
  | 17, _, _ => exact ⟨195, 201, by omega, by omega, so17⟩
  | 18, _, _ => exact ⟨204, 210, by omega, by omega, so18⟩
  | 19, _, _ => exact ⟨204, 210, by omega, by omega, so19⟩
  | 20, _, _ => exact ⟨213, 219, by omega, by omega, so20⟩
  | 21, _, _ => exact ⟨213, 219, by omega, by omega, so21⟩
  | 22, _, _ => exact ⟨222, 228, by omega, by omega, so22⟩
  | 23, _, _ => exact ⟨222, 228, by omega, by omega, so23⟩
  | 24, _, _ => exact ⟨231, 237, by omega, by omega, so24⟩
  | 25, _, _ => exact ⟨231, 237, by omega, by omega, so25⟩
  | 26, _, _ => exact ⟨240, 246, by omega, by omega, so26⟩
  | 27, _, _ => exact ⟨240, 246, by omega, by omega, so27⟩
  | 28, _, _ => exact ⟨249, 255, by omega, by omega, so28⟩
  | 29, _, _ => exact ⟨249, 255, by omega, by omega, so29⟩
  | 30, _, _ => exact ⟨258, 264, by omega, by omega, so30⟩
  | 31, _, _ => exact ⟨258, 264, by omega, by omega, so31⟩
  | 32, _, _ => exact ⟨267, 273, by omega, by omega, so32⟩
  | 33, _, _ => exact ⟨267, 273, by omega, by omega, so33⟩
  | 34, _, _ => exact ⟨276, 282, by omega, by omega, so34⟩
  | 35, _, _ => exact ⟨276, 282, by omega, by omega, so35⟩
  | 36, _, _ => exact ⟨285, 291, by omega, by omega, so36⟩
  | 37, _, _ => exact ⟨285, 291, by omega, by omega, so37⟩
  | 38, _, _ => exact ⟨294, 300, by omega, by omega, so38⟩
  | 39, _, _ => exact ⟨294, 300, by omega, by omega, so39⟩
  | 40, _, _ => exact ⟨303, 309, by omega, by omega, so40⟩
  | 41, _, _ => exact ⟨303, 309, by omega, by omega, so41⟩
  | 42, _, _ => exact ⟨312, 318, by omega, by omega, so42⟩
  | 43, _, _ => exact ⟨312, 318, by omega, by omega, so43⟩
  | 44, _, _ => exact ⟨321, 327, by omega, by omega, so44⟩
  | 45, _, _ => exact ⟨321, 327, by omega, by omega, so45⟩
  | 46, _, _ => exact ⟨330, 336, by omega, by omega, so46⟩
  | 47, _, _ => exact ⟨330, 336, by omega, by omega, so47⟩
  | 48, _, _ => exact ⟨339, 345, by omega, by omega, so48⟩
  | 49, _, _ => exact ⟨339, 345, by omega, by omega, so49⟩
  | 50, _, _ => exact ⟨348, 354, by omega, by omega, so50⟩
  | 51, _, _ => exact ⟨348, 354, by omega, by omega, so51⟩
  | 52, _, _ => exact ⟨357, 363, by omega, by omega, so52⟩
  | 53, _, _ => exact ⟨357, 363, by omega, by omega, so53⟩
  | 54, _, _ => exact ⟨366, 372, by omega, by omega, so54⟩
  | 55, _, _ => exact ⟨366, 372, by omega, by omega, so55⟩
  | 56, _, _ => exact ⟨375, 381, by omega, by omega, so56⟩
  | 57, _, _ => exact ⟨375, 381, by omega, by omega, so57⟩
  | 58, _, _ => exact ⟨384, 390, by omega, by omega, so58⟩
  | 59, _, _ => exact ⟨384, 390, by omega, by omega, so59⟩
  | 60, _, _ => exact ⟨393, 399, by omega, by omega, so60⟩
  | k + 61, _, h => exact absurd h (by omega)
theorem soE_all (n : Nat) (h : n < 4) : SoE n := by
  match n, h with
  | 0, _ => exact so0
  | 1, _ => exact so1
  | 2, _ => exact so2
  | 3, _ => exact so3
  | k + 4, h => exact absurd h (by omega)
set_option maxHeartbeats 4000000 in
theorem soE_C (n : Nat) (hn : n < 4) (s : St) (hok : s.Ok) (hG : Gl s) (a b c d : Nat)
    (ha : s.get a = some (.map [])) (hb : s.get b = some (.map [])) (hab : a ≠ b) (hc : s.get c = some (.cells (boxC n a b) .exact)) (hd : s.get d = some (.cells (diskC c n) .exact)) :
    CSem Tryz.prog tbA 19 [.pointer (some ⟨d, 0, none⟩)] s (.tuple #[.pointer none, .iface 36 (.int .i64 1)]) s := by
  obtain ⟨t', hrun, hobj, hmod⟩ := runOut_spec (soE_all n hn)
  obtain ⟨q0, q1, q2, q3, q4, q6, q7⟩ := hG.get
  have n0 : ∀ x o, s.get x = some o → o.writable = true → x ≠ 0 ∧ x ≠ 1 ∧ x ≠ 2 ∧ x ≠ 3 ∧ x ≠ 4 ∧ x ≠ 6 ∧ x ≠ 7 := fun x o hx hw => by
    refine ⟨?_, ?_, ?_, ?_, ?_, ?_, ?_⟩ <;> (intro e; subst e; first | (rw [q0] at hx; cases hx; cases hw) | (rw [q1] at hx; cases hx; cases hw) | (rw [q2] at hx; cases hx; cases hw) | (rw [q3] at hx; cases hx; cases hw) | (rw [q4] at hx; cases hx; cases hw) | (rw [q6] at hx; cases hx; cases hw) | (rw [q7] at hx; cases hx; cases hw))
  obtain ⟨a0, a1, a2, a3, a4, a6, a7⟩ := n0 a _ ha rfl
  obtain ⟨b0, b1, b2, b3, b4, b6, b7⟩ := n0 b _ hb rfl
  obtain ⟨c0, c1, c2, c3, c4, c6, c7⟩ := n0 c _ hc rfl
  obtain ⟨d0, d1, d2, d3, d4, d6, d7⟩ := n0 d _ hd rfl
  have hac : a ≠ c := fun e => by rw [e, hc] at ha; cases ha
  have had : a ≠ d := fun e => by rw [e, hd] at ha; cases ha
  have hbc : b ≠ c := fun e => by rw [e, hc] at hb; cases hb
  have hbd : b ≠ d := fun e => by rw [e, hd] at hb; cases hb
  have hcd : c ≠ d := fun e => by rw [e, hd] at hc; unfold boxC diskC at hc; cases hc
  have hR : ∀ i, i ∈ soI0 → (i ≤ 7 ∧ i ≠ 5 ∧ soR a b c d i = i) ∨ (i = 8 ∧ soR a b c d i = a) ∨ (i = 9 ∧ soR a b c d i = b) ∨ (i = 10 ∧ soR a b c d i = c) ∨ (i = 11 ∧ soR a b c d i = d) := fun i hi => by
    simp only [soI0, List.mem_cons, List.not_mem_nil, or_false] at hi
    by_cases h7 : i ≤ 7
    · exact .inl ⟨h7, by omega, soR_gl h7⟩
    · rcases (by omega : i = 8 ∨ i = 9 ∨ i = 10 ∨ i = 11) with e | e | e | e <;> subst e <;> simp [soR]
  have hfin := CSem.subR (run_ok tbA_ok tbA_nat hrun) (soT_part n) (s := s) (ρ := soR a b c d) (fun i o h => ?_) (fun i j hi hj e => ?_) (fun i o h => ?_) (fun i hi => soR_gl (glF_le hi)) (fun y hy => ?_) (by simp [inD]) (fun i hi => by have := hmod i hi; cases this)
  · have e1 : [Value.pointer (some ⟨11, 0, none⟩)].map (ren (soR a b c d)) = [.pointer (some ⟨d, 0, none⟩)] := by simp [ren, soR]
    rw [e1] at hfin
    exact hfin
  · refine .inl ?_
    rcases soT_get h with ⟨j, h1, h2⟩ | ⟨rfl, rfl⟩ | ⟨rfl, rfl⟩ | ⟨rfl, rfl⟩ | ⟨rfl, rfl⟩
    · obtain ⟨k1, _, _, k2, k3, _⟩ := gl_copy hG (ρ := soR a b c d) (fun i hi => soR_gl hi) h1 h2
      rw [soR_gl k1, k3, k2]
    · exact ha
    · exact hb
    · have : (AObj.cells (boxC n 8 9) .exact).ren (soR a b c d) = .cells (boxC n a b) .exact := by simp [AObj.ren, boxC, ren, soR]
      rw [this]; exact hc
    · have : (AObj.cells (diskC 10 n) .exact).ren (soR a b c d) = .cells (diskC c n) .exact := by simp [AObj.ren, diskC, ren, soR]
      rw [this]; exact hd
  · have h1 := hR i (soT_dom.1 hi)
    have h2 := hR j (soT_dom.1 hj)
    clear hR hi hj q0 q1 q2 q3 q4 q6 q7 n0
    rcases h1 with h1 | h1 | h1 | h1 | h1 <;> rcases h2 with h2 | h2 | h2 | h2 | h2 <;> omega
  · rcases soT_get h with ⟨j, h1, h2⟩ | ⟨rfl, rfl⟩ | ⟨rfl, rfl⟩ | ⟨rfl, rfl⟩ | ⟨rfl, rfl⟩
    · exact (gl_copy hG (ρ := fun i => i) (fun i hi => rfl) h1 h2).2.1
    all_goals rfl
  · simp only [List.mem_singleton] at hy
    subst hy
    simp only [inD]; exact soT_dom.2 (by simp [soI0])
end Go.Proofs.Ae
namespace Go.Proofs.Ae
open Go.Proofs
set_option maxHeartbeats 4000000
theorem tbA_ty : tbA.ty = tyT := rfl
theorem WR.passG {tb : Tb} {ops l : List Oper} {o : Oper} {a : AA} {s : St} {Q : AA → St → Prop} {j d : Nat} {want b : Bool} (hg : o.guard = some (j, want)) (h : (ops[j]?).bind (·.dst) = some d) (hb : tmA a.tm d = .bool b) (hn : b = !want) (k : WR tb ops l (a.put o.dst undefA) s Q) : WR tb ops (o :: l) a s Q :=
  WR.pass (by rw [hg, wanted_some h hb, hn]; cases want <;> rfl) k
theorem WR.valG {tb : Tb} {ops l : List Oper} {o : Oper} {a : AA} {s s1 : St} {v : Value} {Q : AA → St → Prop} {j d : Nat} {want b : Bool} (hg : o.guard = some (j, want)) (h : (ops[j]?).bind (·.dst) = some d) (hb : tmA a.tm d = .bool b) (hn : b = want) (h1 : opA tb.ty s a.tm o.op = some (.val v, s1)) (k : WR tb ops l (a.put o.dst v) s1 Q) : WR tb ops (o :: l) a s Q :=
  WR.val (by rw [hg, wanted_some h hb, hn]; cases want <;> rfl) h1 k
theorem WR.callG {tb : Tb} {ops l : List Oper} {o : Oper} {a : AA} {s s1 : St} {f : FuncId} {args : List Value} {R : Value → St → Prop} {Q : AA → St → Prop} {j d : Nat} {want b : Bool} (hg : o.guard = some (j, want)) (h : (ops[j]?).bind (·.dst) = some d) (hb : tmA a.tm d = .bool b) (hn : b = want) (h1 : opA tb.ty s a.tm o.op = some (.enter f args, s1)) (hc : CP tb f args s1 R)
    (kk : ∀ v s2, R v s2 → WR tb ops l (a.put o.dst v) s2 Q) : WR tb ops (o :: l) a s Q :=
  WR.call (by rw [hg, wanted_some h hb, hn]; cases want <;> rfl) h1 hc kk
def IntsAt (s : St) (b o : Nat) (l : List Int) : Prop := ∃ c m, s.get b = some (.cells c m) ∧ ∀ p, p < l.length → c[o + p]? = some (.int .i64 (atI l p))
inductive HV (s : St) : Value → List Int → Prop
  | empty (a : Option Addr) (cap : Nat) : HV s (.slice a 0 cap) []
  | at (b o cap : Nat) (l : List Int) (h0 : l ≠ []) (hc : capOk 1 l.length cap) (h : IntsAt s b o l) : HV s (.slice (some ⟨b, o, none⟩) l.length cap) l
theorem HV.form {s : St} {v : Value} {l : List Int} (k : HV s v l) : ∃ a cap, v = .slice a l.length cap := by
  cases k <;> exact ⟨_, _, rfl⟩
theorem ty22 : ∃ ti, tyT.get 22 = some ti ∧ ti.d = .slice 3 ∧ ti.size = 1 := tyR (by kernel_rfl)
theorem one3 : tyOne 3 := by unfold tyOne; kernel_rfl
theorem one9 : tyOne 9 := by unfold tyOne; kernel_rfl
theorem one22 : tyOne 22 := by unfold tyOne; kernel_rfl
theorem ix22 (s : St) (b o n c : Nat) (k : IntKind) (i : Nat) (h : i < n) : indexAddrA tyT s (.slice (some ⟨b, o, none⟩) n c) (.int k (i : Int)) (tyT.get 22) = some (.val (.pointer (some ⟨b, o + i, none⟩)), s) := by
  obtain ⟨ti47, t47, d47, _⟩ := ty22
  obtain ⟨ti5, t5, d5, z5⟩ := ty3
  rw [t47, indexAddr_slice _ _ _ _ _ _ _ _ _ d47, t5, idxTo_in _ _ _ _ ti5 (by omega) (by omega), addA_none, z5]; simp
theorem HV.elem {s : St} {v : Value} {l : List Int} (k : HV s v l) {i : Nat} (hi : i < l.length) : ∃ p, (∀ s' K, indexAddrA tyT s' v (.int K (i : Int)) (tyT.get 22) = some (.val (.pointer (some p)), s')) ∧ ∀ s', s'.get = s.get → loadA s' (.pointer (some p)) (tyT.get 3) = some (.val (.int .i64 (atI l i)), s') := by
  cases k with
  | empty => simp at hi
  | «at» b o cap l h0 hc h =>
    obtain ⟨c, m, hg, hcell⟩ := h
    exact ⟨⟨b, o + i, none⟩, fun s' K => ix22 _ _ _ _ _ _ _ hi, fun s' e => ldT one3 s' b (o + i) _ (by rw [e, hg]; exact hcell i hi)⟩
theorem HV.pre {s : St} {v : Value} {l : List Int} (k : HV s v l) {i : Nat} (hi : i < l.length) (s' : St) : ∃ v', HV s v' (l.take i) ∧ sliceA tyT s' v none (some (.int .i64 (i : Int))) none (tyT.get 22) = some (.val v', s') := by
  cases k with
  | empty => simp at hi
  | «at» b o cap l h0 hc h =>
    obtain ⟨cap', hc', hsl⟩ := slice_mid s' 1 b o l.length cap .i64 .i64 0 (i : Int) (by omega) (by omega) (by omega) (by omega) hc
    have e0 : sliceS s' 1 (some ⟨b, o, none⟩) l.length cap none (some (.int .i64 (i : Int))) none = sliceS s' 1 (some ⟨b, o, none⟩) l.length cap (some (.int .i64 0)) (some (.int .i64 (i : Int))) none := by
      have hlow : ∀ h : Nat, lowA none h = lowA (some (.int .i64 0)) h := fun h => by
        show some 0 = boundA (.int .i64 (0 : Int)) h
        rw [boundA_in .i64 0 h (by omega) (by omega)]; rfl
      simp only [sliceS, sliceG, sliceE, hlow]
    have e1 : ((i : Int) - 0).toNat = i := by omega
    rw [e1] at hc' hsl
    refine ⟨.slice (some ⟨b, o, none⟩) i cap', ?_, ?_⟩
    · have hl : (l.take i).length = i := by rw [List.length_take]; omega
      cases i with
      | zero => exact .empty _ _
      | succ i =>
        have := HV.at (s := s) b o cap' (l.take (i + 1)) (by intro e; rw [e] at hl; simp at hl) (by rw [hl]; exact hc') (by
          obtain ⟨c, m, hg, hcell⟩ := h
          refine ⟨c, m, hg, fun p hp => ?_⟩
          rw [hl] at hp
          rw [hcell p (by omega)]
          simp only [atI, List.getD_eq_getElem?_getD, List.getElem?_take_of_lt hp])
        rw [hl] at this
        exact this
    · obtain ⟨ti47, t47, d47, _⟩ := ty22
      obtain ⟨ti5, t5, d5, z5⟩ := ty3
      have h1 : Nat.ble 1 1 = true := rfl
      simp only [t47, sliceA, d47, t5, z5, h1, cond_true, e0, hsl, valS_so]
      simp
noncomputable def indx_0 : Array Oper := opsAt Tryz.f79 [0]
noncomputable def indx_1 : Array Oper := opsAt Tryz.f79 [1, 0, 0]
noncomputable def indx_2 : Array Oper := opsAt Tryz.f79 [1, 0, 1, 0, 0, 0]
noncomputable def indx_3 : Array Oper := opsAt Tryz.f79 [1, 0, 1, 0, 0, 1, 1, 0, 0, 0]
noncomputable def indx_4 : Array Oper := opsAt Tryz.f79 [1, 0, 1, 0, 0, 1, 1, 0, 0, 1, 0]
noncomputable def indx_5 : Array Oper := opsAt Tryz.f79 [1, 0, 1, 0, 0, 1, 1, 0, 0, 1, 1, 0, 0]
noncomputable def indx_6 : Array Oper := opsAt Tryz.f79 [1, 0, 1, 0, 0, 1, 1, 1]
noncomputable def indx_7 : Array Oper := opsAt Tryz.f79 [1, 1, 0]
theorem indx_body : Tryz.f79.body = some (.seq (.region 0 indx_0 false) (.seq (.seq (.region 1 indx_1 false) (.block 0 (.loop (.seq (.region 2 indx_2 false) (.seq (.cond (.tmp 9) .skip (.exit 0)) (.seq (.block 1 (.seq (.region 3 indx_3 false) (.seq (.region 4 indx_4 false) (.cond (.tmp 16) (.seq (.region 5 indx_5 false) .ret) .skip)))) (.region 6 indx_6 false))))))) (.seq (.region 7 indx_7 false) .ret))) := by kernel_rfl
theorem indx_C (s : St) (hv : Value) (l : List Int) (x : Int) (hH : HV s hv l) (hl : l.length < 9223372036854775808) : CP tbA 79 [hv, .int .i64 x] (bare s) (fun v s' => s' = bare s ∧ ∃ r, v = .int .i64 r ∧ (0 ≤ r ↔ x ∈ l)) := by
  refine CP.of rfl (by kernel_rfl) indx_body (Nat.le_of_ble_eq_true rfl) ?_
  have e0 : tmA (argsTr [hv, .int .i64 x] 0 .nil) 0 = hv := rfl
  have e1 : tmA (argsTr [hv, .int .i64 x] 0 .nil) 1 = .int .i64 x := rfl
  generalize argsTr [hv, .int .i64 x] 0 .nil = t0 at e0 e1 ⊢
  obtain ⟨aa, cp, hvf⟩ := hH.form
  refine W.seq (W.region ?_)
  refine WR.val rfl (by simp only [push_cast, tbA_ty, Nat.reduceEqDiff, ↓reduceIte]; rfl) (WR.nil ?_)
  refine W.seq (W.seq (W.region ?_))
  refine WR.val rfl (by simp only [push_cast, tbA_ty, Nat.reduceEqDiff, ↓reduceIte, e0]; rfl) ?_
  refine WR.val rfl (by simp only [push_cast, tbA_ty, Nat.reduceEqDiff, ↓reduceIte, hvf]; rfl) ?_
  refine WR.val rfl (by simp only [push_cast, tbA_ty, Nat.reduceEqDiff, ↓reduceIte]; rfl) (WR.nil ?_)
  refine W.block (W.loop (fun m a s' => ∃ (j : Nat) (tm : Tr Value), a = ⟨tm, [], false, 79⟩ ∧ j + m = l.length ∧ s' = bare (bare s) ∧ tmA tm 0 = hv ∧ tmA tm 1 = .int .i64 x ∧ tmA tm 7 = .int .i64 (l.length : Int) ∧ tmA tm 8 = .int .i64 (j : Int) ∧ x ∉ l.take j) ?_ l.length _ _ ⟨0, _, rfl, by omega, rfl, ?_, ?_, ?_, ?_, by simp⟩)
  rotate_left
  · simp only [push_cast, tbA_ty, Nat.reduceEqDiff, ↓reduceIte, e0]
  · simp only [push_cast, tbA_ty, Nat.reduceEqDiff, ↓reduceIte, e1]
  · simp only [push_cast, tbA_ty, Nat.reduceEqDiff, ↓reduceIte]
  · simp only [push_cast, tbA_ty, Nat.reduceEqDiff, ↓reduceIte]
  rintro m a s' ⟨j, tm, rfl, hm, rfl, f0, f1, f7, f8, hno⟩
  refine W.seq (W.region ?_)
  refine WR.val rfl (by simp only [push_cast, tbA_ty, Nat.reduceEqDiff, ↓reduceIte, f7, f8]; rfl) (WR.nil ?_)
  refine W.seq (W.cond (b := decide ((j : Int) < (l.length : Int))) (by simp only [push_cast, tbA_ty, Nat.reduceEqDiff, ↓reduceIte]) (fun hb => W.skip ?_) (fun hb => W.exit ?_))
  · have hj : j < l.length := by have := of_decide_eq_true hb; omega
    obtain ⟨p, hix, hld⟩ := hH.elem hj
    refine W.seq (W.block (W.seq (W.region ?_)))
    iterate 2 refine WR.val rfl (by simp only [push_cast, tbA_ty, Nat.reduceEqDiff, ↓reduceIte, f8]; rfl) ?_
    refine WR.nil (W.seq (W.region ?_))
    iterate 3 refine WR.val rfl (by simp only [push_cast, tbA_ty, Nat.reduceEqDiff, ↓reduceIte, f0, f1]; rfl) ?_
    refine WR.val rfl (by simp only [push_cast, tbA_ty, Nat.reduceEqDiff, ↓reduceIte]; exact hix _ _) ?_
    refine WR.val rfl (by simp only [push_cast, tbA_ty, Nat.reduceEqDiff, ↓reduceIte]; exact hld _ rfl) ?_
    refine WR.val rfl (by simp only [push_cast, tbA_ty, Nat.reduceEqDiff, ↓reduceIte]; rfl) (WR.nil ?_)
    refine W.cond (b := decide (x = atI l j)) (by simp only [push_cast, tbA_ty, Nat.reduceEqDiff, ↓reduceIte]) (fun hb => ?_) (fun hb => W.skip ?_)
    · have hx : x = atI l j := of_decide_eq_true hb
      refine W.seq (W.region ?_)
      iterate 2 refine WR.val rfl (by simp only [push_cast, tbA_ty, Nat.reduceEqDiff, ↓reduceIte]; rfl) ?_
      refine WR.nil (W.ret ⟨.inr rfl, rfl, [.int .i64 (j : Int)], ?_, rfl, j, rfl, ?_⟩)
      · rw [show Tryz.f79.results.toList = [.tmp 4] from rfl, res1]
        simp only [push_cast, tbA_ty, Nat.reduceEqDiff, ↓reduceIte]
      · have : x ∈ l := by
          rw [hx, atI, List.getD_eq_getElem?_getD, List.getElem?_eq_getElem hj]
          exact List.getElem_mem hj
        exact ⟨fun _ => this, fun _ => by omega⟩
    · have hx : x ≠ atI l j := of_decide_eq_false hb
      refine W.region ?_
      refine WR.val rfl (by simp only [push_cast, tbA_ty, Nat.reduceEqDiff, ↓reduceIte, f8]; rfl) ?_
      refine WR.val rfl (by simp only [push_cast, tbA_ty, Nat.reduceEqDiff, ↓reduceIte]; rfl) (WR.nil ⟨m - 1, by omega, j + 1, _, rfl, by omega, rfl, ?_, ?_, ?_, ?_, ?_⟩)
      · simp only [push_cast, tbA_ty, Nat.reduceEqDiff, ↓reduceIte, f0]
      · simp only [push_cast, tbA_ty, Nat.reduceEqDiff, ↓reduceIte, f1]
      · simp only [push_cast, tbA_ty, Nat.reduceEqDiff, ↓reduceIte, f7]
      · simp only [push_cast, tbA_ty, Nat.reduceEqDiff, ↓reduceIte]
        rw [show ((j : Int) + 1) = ((j + 1 : Nat) : Int) from by omega, i64_in _ (by omega)]
      · rw [List.take_add_one, List.mem_append]
        rintro (h | h)
        · exact hno h
        · rw [List.getElem?_eq_getElem hj] at h
          simp only [Option.toList_some, List.mem_singleton] at h
          exact hx (by rw [h, atI, List.getD_eq_getElem?_getD, List.getElem?_eq_getElem hj]; rfl)
  · have hj : l.length ≤ j := by have := of_decide_eq_false hb; omega
    refine W.seq (W.region ?_)
    refine WR.val rfl (by simp only [push_cast, tbA_ty, Nat.reduceEqDiff, ↓reduceIte]; rfl) (WR.nil ?_)
    refine W.ret ⟨.inr rfl, rfl, [.int .i64 (-1)], ?_, rfl, -1, rfl, ?_⟩
    · rw [show Tryz.f79.results.toList = [.tmp 4] from rfl, res1]
      simp only [push_cast, tbA_ty, Nat.reduceEqDiff, ↓reduceIte]
    · rw [List.take_of_length_le hj] at hno
      exact ⟨fun h => by omega, fun h => absurd h hno⟩
noncomputable def cont_0 : Array Oper := opsAt Tryz.f39 [0]
noncomputable def cont_1 : Array Oper := opsAt Tryz.f39 [1, 0]
theorem cont_body : Tryz.f39.body = some (.seq (.region 0 cont_0 false) (.seq (.region 1 cont_1 false) .ret)) := by kernel_rfl
theorem cont_C (s : St) (hv : Value) (l : List Int) (x : Int) (hH : HV s hv l) (hl : l.length < 9223372036854775808) : CP tbA 39 [hv, .int .i64 x] (bare s) (fun v s' => s' = bare s ∧ v = .bool (decide (x ∈ l))) := by
  refine CP.of rfl (by kernel_rfl) cont_body (Nat.le_of_ble_eq_true rfl) ?_
  have e0 : tmA (argsTr [hv, .int .i64 x] 0 .nil) 0 = hv := rfl
  have e1 : tmA (argsTr [hv, .int .i64 x] 0 .nil) 1 = .int .i64 x := rfl
  generalize argsTr [hv, .int .i64 x] 0 .nil = t0 at e0 e1 ⊢
  refine W.seq (W.region ?_)
  refine WR.val rfl (by simp only [push_cast, tbA_ty, Nat.reduceEqDiff, ↓reduceIte]; rfl) (WR.nil ?_)
  refine W.seq (W.region ?_)
  iterate 2 refine WR.val rfl (by simp only [push_cast, tbA_ty, Nat.reduceEqDiff, ↓reduceIte, e0, e1]; rfl) ?_
  refine WR.call rfl (by simp only [push_cast, tbA_ty, Nat.reduceEqDiff, ↓reduceIte]; rfl) (indx_C (bare s) hv l x (by cases hH with
    | empty a c => exact .empty a c
    | «at» b o cap l h0 hc h => exact .at b o cap l h0 hc h) hl) ?_
  rintro _ _ ⟨rfl, r, rfl, hr⟩
  refine WR.val rfl (by simp only [push_cast, tbA_ty, Nat.reduceEqDiff, ↓reduceIte]; rfl) ?_
  refine WR.val rfl (by simp only [push_cast, tbA_ty, Nat.reduceEqDiff, ↓reduceIte]; rfl) (WR.nil ?_)
  refine W.ret ⟨.inr rfl, rfl, [.bool (decide (x ∈ l))], ?_, rfl, rfl⟩
  rw [show Tryz.f39.results.toList = [.tmp 4] from rfl, res1]
  have e : decide (r ≥ 0) = decide (x ∈ l) := decide_eq_decide.2 hr
  simp only [push_cast, tbA_ty, Nat.reduceEqDiff, ↓reduceIte, e]
end Go.Proofs.Ae
namespace Go.Proofs.Ae
open Go.Proofs
set_option maxHeartbeats 4000000
noncomputable def may_0 : Array Oper := opsAt Tryz.f18 [0]
noncomputable def may_1 : Array Oper := opsAt Tryz.f18 [1, 0, 0]
noncomputable def may_2 : Array Oper := opsAt Tryz.f18 [1, 0, 1, 0, 0, 0]
noncomputable def may_3 : Array Oper := opsAt Tryz.f18 [1, 0, 1, 0, 0, 1, 1, 0, 0, 0]
noncomputable def may_4 : Array Oper := opsAt Tryz.f18 [1, 0, 1, 0, 0, 1, 1, 0, 0, 1, 0]
noncomputable def may_5 : Array Oper := opsAt Tryz.f18 [1, 0, 1, 0, 0, 1, 1, 0, 0, 1, 1, 0, 0]
noncomputable def may_6 : Array Oper := opsAt Tryz.f18 [1, 0, 1, 0, 0, 1, 1, 1]
noncomputable def may_7 : Array Oper := opsAt Tryz.f18 [1, 1, 0]
theorem may_body : Tryz.f18.body = some (.seq (.region 0 may_0 false) (.seq (.seq (.region 1 may_1 false) (.block 0 (.loop (.seq (.region 2 may_2 false) (.seq (.cond (.tmp 9) .skip (.exit 0)) (.seq (.block 1 (.seq (.region 3 may_3 false) (.seq (.region 4 may_4 false) (.cond (.tmp 26) (.seq (.region 5 may_5 false) .ret) .skip)))) (.region 6 may_6 false))))))) (.seq (.region 7 may_7 false) .ret))) := by kernel_rfl
theorem HV.mono {s s' : St} {v : Value} {l : List Int} (k : HV s v l) (e : ∀ i, hdom s.get i → s'.get i = s.get i) : HV s' v l := by
  cases k with
  | empty a c => exact .empty a c
  | «at» b o cap l h0 hc h =>
    obtain ⟨c, m, hg, hcell⟩ := h
    exact .at b o cap l h0 hc ⟨c, m, by rw [e b (hdom_of hg), hg], hcell⟩
def okPre (l : List Int) (j : Nat) : Prop := ∀ i, i < j → 1 ≤ atI l i ∧ atI l i ≤ 65535 ∧ atI l i ∉ l.take i
theorem okPre.succ {l : List Int} {j : Nat} : okPre l (j + 1) ↔ okPre l j ∧ 1 ≤ atI l j ∧ atI l j ≤ 65535 ∧ atI l j ∉ l.take j := by
  refine ⟨fun h => ⟨fun i hi => h i (by omega), h j (by omega)⟩, fun ⟨h1, h2⟩ i hi => ?_⟩
  by_cases e : i = j
  · subst e; exact h2
  · exact h1 i (by omega)
def mayP (k : ByteArray) (l : List Int) : Prop := okPre l l.length ∧ k.data.toList.length ≤ 200 ∧ 1 ≤ l.length ∧ l.length ≤ 4
open Classical in
noncomputable def mayV (k : ByteArray) (l : List Int) : Bool := decide (mayP k l)
theorem mayV_false {k : ByteArray} {l : List Int} (h : ¬ mayP k l) : mayV k l = false := by unfold mayV; simp [h]
theorem mayV_true {k : ByteArray} {l : List Int} (h : mayP k l) : mayV k l = true := by unfold mayV; simp [h]
theorem f24_0 : fldIs 24 0 0 := ⟨by kernel_rfl, by kernel_rfl⟩
theorem f24_1 : fldIs 24 1 1 := ⟨by kernel_rfl, by kernel_rfl⟩
def ofC (k : ByteArray) (hv : Value) : List Value := [.string k, hv]
theorem may_C (s : St) (hok : s.Ok) (k : ByteArray) (hv : Value) (l : List Int) (hH : HV s hv l) (hl : l.length < 9223372036854775808) : CP tbA 18 [.agg #[.string k, hv]] (bare s) (fun v s' => v = .bool (mayV k l) ∧ s'.mods = []) := by
  refine CP.of rfl (by kernel_rfl) may_body (Nat.le_of_ble_eq_true rfl) ?_
  have e0 : tmA (argsTr [.agg #[.string k, hv]] 0 .nil) 0 = .agg #[.string k, hv] := rfl
  generalize argsTr [.agg #[.string k, hv]] 0 .nil = t0 at e0 ⊢
  refine W.seq (W.region ?_)
  refine WR.val rfl (by simp only [push_cast, tbA_ty, Nat.reduceEqDiff, ↓reduceIte, e0]; rfl) ?_
  refine WR.val rfl (by simp only [push_cast, tbA_ty, Nat.reduceEqDiff, ↓reduceIte]; rfl) (WR.nil ?_)
  obtain ⟨s1, hs1⟩ : ∃ s1, s1 = s.alloc (.cells (ofC k hv) .exact) := ⟨_, rfl⟩
  have hg1 : s1.get s.next = some (.cells (ofC k hv) .exact) := by rw [hs1]; exact St.get_alloc_self _ _
  have hH1 : HV s1 hv l := hH.mono fun i hi => by rw [hs1]; exact St.get_alloc_ne _ _ _ (by have := hok i hi; omega)
  obtain ⟨aa, cp, hvf⟩ := hH.form
  change W tbA _ _ (bare s1 |> fun _ => bare (s.alloc (.cells (ofC k hv) .exact))) _
  rw [show (bare s1 |> fun _ => bare (s.alloc (.cells (ofC k hv) .exact))) = bare s1 from by rw [hs1]]
  have hld1 : loadA (bare s1) (.pointer (some ⟨s.next, 1, none⟩)) (tyT.get 22) = some (.val hv, bare s1) := ldT one22 _ _ _ _ (by rw [bare_get, hg1]; rfl)
  have hld0 : loadA (bare s1) (.pointer (some ⟨s.next, 0, none⟩)) (tyT.get 9) = some (.val (.string k), bare s1) := ldT one9 _ _ _ _ (by rw [bare_get, hg1]; rfl)
  refine W.seq (W.seq (W.region ?_))
  refine WR.val rfl (by simp only [push_cast, tbA_ty, Nat.reduceEqDiff, ↓reduceIte]; exact faT f24_1 _ _) ?_
  refine WR.val rfl (by simp only [push_cast, tbA_ty, Nat.reduceEqDiff, ↓reduceIte]; exact hld1) ?_
  refine WR.val rfl (by simp only [push_cast, tbA_ty, Nat.reduceEqDiff, ↓reduceIte, hvf]; rfl) ?_
  refine WR.val rfl (by simp only [push_cast, tbA_ty, Nat.reduceEqDiff, ↓reduceIte]; rfl) (WR.nil ?_)
  refine W.block (W.loop (fun m a s' => ∃ (j : Nat) (tm : Tr Value), a = ⟨tm, [], false, 18⟩ ∧ j + m = l.length ∧ s' = bare s1 ∧ tmA tm 1 = .pointer (some ⟨s.next, 0, none⟩) ∧ tmA tm 6 = hv ∧ tmA tm 7 = .int .i64 (l.length : Int) ∧ tmA tm 8 = .int .i64 (j : Int) ∧ okPre l j) ?_ l.length _ _ ⟨0, _, rfl, by omega, rfl, ?_, ?_, ?_, ?_, fun i hi => absurd hi (by omega)⟩)
  rotate_left
  · simp only [push_cast, tbA_ty, Nat.reduceEqDiff, ↓reduceIte]; rfl
  · simp only [push_cast, tbA_ty, Nat.reduceEqDiff, ↓reduceIte]
  · simp only [push_cast, tbA_ty, Nat.reduceEqDiff, ↓reduceIte]
  · simp only [push_cast, tbA_ty, Nat.reduceEqDiff, ↓reduceIte]
  have hret : ∀ (tm : Tr Value), ¬ okPre l l.length → tmA tm 2 = .bool false → (AX.ret = AX.normal ∨ AX.ret = AX.ret) ∧ (⟨tm, [], false, 18⟩ : AA).df = [] ∧ ∃ vs, resA tbA.ty (bare s1) tm Tryz.f18.results.toList = some vs ∧ tup vs = .bool (mayV k l) ∧ (keepMods (bare s) (bare s1)).mods = [] := fun tm hno h2 => by
    refine ⟨.inr rfl, rfl, [.bool false], ?_, ?_, rfl⟩
    · rw [show Tryz.f18.results.toList = [.tmp 2] from rfl, res1, h2]
    · rw [mayV_false fun h => hno h.1]; rfl
  rintro m a s' ⟨j, tm, rfl, hm, rfl, f1, f6, f7, f8, hpre⟩
  refine W.seq (W.region ?_)
  refine WR.val rfl (by simp only [push_cast, tbA_ty, Nat.reduceEqDiff, ↓reduceIte, f7, f8]; rfl) (WR.nil ?_)
  refine W.seq (W.cond (b := decide ((j : Int) < (l.length : Int))) (by simp only [push_cast, tbA_ty, Nat.reduceEqDiff, ↓reduceIte]) (fun hb => W.skip ?_) (fun hb => W.exit ?_))
  · have hj : j < l.length := by have := of_decide_eq_true hb; omega
    obtain ⟨p, hix, hld⟩ := hH1.elem hj
    obtain ⟨x, hx⟩ : ∃ x, x = atI l j := ⟨_, rfl⟩
    rw [← hx] at hld
    refine W.seq (W.block (W.seq (W.region ?_)))
    refine WR.val rfl (by simp only [push_cast, tbA_ty, Nat.reduceEqDiff, ↓reduceIte, f8]; rfl) ?_
    refine WR.val rfl (by simp only [push_cast, tbA_ty, Nat.reduceEqDiff, ↓reduceIte, f6, f8]; exact hix _ _) ?_
    refine WR.val rfl (by simp only [push_cast, tbA_ty, Nat.reduceEqDiff, ↓reduceIte]; exact hld _ rfl) ?_
    iterate 2 refine WR.val rfl (by simp only [push_cast, tbA_ty, Nat.reduceEqDiff, ↓reduceIte]; rfl) ?_
    refine WR.nil (W.seq (W.region ?_))
    refine WR.val rfl (by simp only [push_cast, tbA_ty, Nat.reduceEqDiff, ↓reduceIte]; rfl) ?_
    refine WR.val rfl (by simp only [push_cast, tbA_ty, Nat.reduceEqDiff, ↓reduceIte]; rfl) ?_
    refine WR.val rfl (by simp only [push_cast, tbA_ty, Nat.reduceEqDiff, ↓reduceIte]; rfl) ?_
    by_cases hc1 : x < 1
    · have hd1 : decide (x < 1) = true := decide_eq_true hc1
      refine WR.passG (d := 15) (b := true) rfl (by rfl) (by simp only [push_cast, tbA_ty, Nat.reduceEqDiff, ↓reduceIte, hd1]) rfl ?_
      refine WR.passG (d := 15) (b := true) rfl (by rfl) (by simp only [push_cast, tbA_ty, Nat.reduceEqDiff, ↓reduceIte, hd1]) rfl ?_
      refine WR.val rfl (by simp only [push_cast, tbA_ty, Nat.reduceEqDiff, ↓reduceIte, hd1]; rfl) ?_
      refine WR.val rfl (by simp only [push_cast, tbA_ty, Nat.reduceEqDiff, ↓reduceIte]; rfl) ?_
      refine WR.passG (d := 19) (b := true) rfl (by rfl) (by simp only [push_cast, tbA_ty, Nat.reduceEqDiff, ↓reduceIte, hd1]) rfl ?_
      refine WR.passG (d := 19) (b := true) rfl (by rfl) (by simp only [push_cast, tbA_ty, Nat.reduceEqDiff, ↓reduceIte, hd1]) rfl ?_
      refine WR.passG (d := 19) (b := true) rfl (by rfl) (by simp only [push_cast, tbA_ty, Nat.reduceEqDiff, ↓reduceIte, hd1]) rfl ?_
      refine WR.passG (d := 19) (b := true) rfl (by rfl) (by simp only [push_cast, tbA_ty, Nat.reduceEqDiff, ↓reduceIte, hd1]) rfl ?_
      refine WR.passG (d := 19) (b := true) rfl (by rfl) (by simp only [push_cast, tbA_ty, Nat.reduceEqDiff, ↓reduceIte, hd1]) rfl ?_
      refine WR.passG (d := 19) (b := true) rfl (by rfl) (by simp only [push_cast, tbA_ty, Nat.reduceEqDiff, ↓reduceIte, hd1]) rfl ?_
      refine WR.val rfl (by simp only [push_cast, tbA_ty, Nat.reduceEqDiff, ↓reduceIte]; rfl) (WR.nil ?_)
      refine W.cond (b := true) (by simp only [push_cast, tbA_ty, Nat.reduceEqDiff, ↓reduceIte]) (fun _ => W.seq (W.region ?_)) (fun h => by cases h)
      refine WR.val rfl (by simp only [push_cast, tbA_ty, Nat.reduceEqDiff, ↓reduceIte]; rfl) (WR.nil (W.ret (hret _ (fun h => ?_) (by simp only [push_cast, tbA_ty, Nat.reduceEqDiff, ↓reduceIte]))))
      have := (h j hj).1
      omega
    · have hd1 : decide (x < 1) = false := decide_eq_false hc1
      refine WR.valG (d := 15) (b := false) rfl (by rfl) (by simp only [push_cast, tbA_ty, Nat.reduceEqDiff, ↓reduceIte, hd1]) rfl (by simp only [push_cast, tbA_ty, Nat.reduceEqDiff, ↓reduceIte]; rfl) ?_
      refine WR.valG (d := 15) (b := false) rfl (by rfl) (by simp only [push_cast, tbA_ty, Nat.reduceEqDiff, ↓reduceIte, hd1]) rfl (by simp only [push_cast, tbA_ty, Nat.reduceEqDiff, ↓reduceIte]; rfl) ?_
      refine WR.val rfl (by simp only [push_cast, tbA_ty, Nat.reduceEqDiff, ↓reduceIte, hd1]; rfl) ?_
      refine WR.val rfl (by simp only [push_cast, tbA_ty, Nat.reduceEqDiff, ↓reduceIte]; rfl) ?_
      by_cases hc2 : x > 65535
      · have hd2 : decide (x > 65535) = true := decide_eq_true hc2
        refine WR.passG (d := 19) (b := true) rfl (by rfl) (by simp only [push_cast, tbA_ty, Nat.reduceEqDiff, ↓reduceIte, hd2]) rfl ?_
        refine WR.passG (d := 19) (b := true) rfl (by rfl) (by simp only [push_cast, tbA_ty, Nat.reduceEqDiff, ↓reduceIte, hd2]) rfl ?_
        refine WR.passG (d := 19) (b := true) rfl (by rfl) (by simp only [push_cast, tbA_ty, Nat.reduceEqDiff, ↓reduceIte, hd2]) rfl ?_
        refine WR.passG (d := 19) (b := true) rfl (by rfl) (by simp only [push_cast, tbA_ty, Nat.reduceEqDiff, ↓reduceIte, hd2]) rfl ?_
        refine WR.passG (d := 19) (b := true) rfl (by rfl) (by simp only [push_cast, tbA_ty, Nat.reduceEqDiff, ↓reduceIte, hd2]) rfl ?_
        refine WR.passG (d := 19) (b := true) rfl (by rfl) (by simp only [push_cast, tbA_ty, Nat.reduceEqDiff, ↓reduceIte, hd2]) rfl ?_
        refine WR.val rfl (by simp only [push_cast, tbA_ty, Nat.reduceEqDiff, ↓reduceIte, hd2]; rfl) (WR.nil ?_)
        refine W.cond (b := true) (by simp only [push_cast, tbA_ty, Nat.reduceEqDiff, ↓reduceIte]) (fun _ => W.seq (W.region ?_)) (fun h => by cases h)
        refine WR.val rfl (by simp only [push_cast, tbA_ty, Nat.reduceEqDiff, ↓reduceIte]; rfl) (WR.nil (W.ret (hret _ (fun h => ?_) (by simp only [push_cast, tbA_ty, Nat.reduceEqDiff, ↓reduceIte]))))
        have := (h j hj).2.1
        omega
      · have hd2 : decide (x > 65535) = false := decide_eq_false hc2
        obtain ⟨v', hv', hsl⟩ := hH1.pre hj (bare s1)
        refine WR.valG (d := 19) (b := false) rfl (by rfl) (by simp only [push_cast, tbA_ty, Nat.reduceEqDiff, ↓reduceIte, hd2]) rfl (by simp only [push_cast, tbA_ty, Nat.reduceEqDiff, ↓reduceIte, f1]; exact faT f24_1 _ _) ?_
        refine WR.valG (d := 19) (b := false) rfl (by rfl) (by simp only [push_cast, tbA_ty, Nat.reduceEqDiff, ↓reduceIte, hd2]) rfl (by simp only [push_cast, tbA_ty, Nat.reduceEqDiff, ↓reduceIte]; exact hld1) ?_
        refine WR.valG (d := 19) (b := false) rfl (by rfl) (by simp only [push_cast, tbA_ty, Nat.reduceEqDiff, ↓reduceIte, hd2]) rfl (by simp only [push_cast, tbA_ty, Nat.reduceEqDiff, ↓reduceIte]; rfl) ?_
        refine WR.valG (d := 19) (b := false) rfl (by rfl) (by simp only [push_cast, tbA_ty, Nat.reduceEqDiff, ↓reduceIte, hd2]) rfl (by simp only [push_cast, tbA_ty, Nat.reduceEqDiff, ↓reduceIte]; exact hsl) ?_
        refine WR.valG (d := 19) (b := false) rfl (by rfl) (by simp only [push_cast, tbA_ty, Nat.reduceEqDiff, ↓reduceIte, hd2]) rfl (by simp only [push_cast, tbA_ty, Nat.reduceEqDiff, ↓reduceIte]; rfl) ?_
        refine WR.callG (d := 19) (b := false) rfl (by rfl) (by simp only [push_cast, tbA_ty, Nat.reduceEqDiff, ↓reduceIte, hd2]) rfl (by simp only [push_cast, tbA_ty, Nat.reduceEqDiff, ↓reduceIte]; rfl) (cont_C s1 v' (l.take j) x hv' (by rw [List.length_take]; omega)) ?_
        rintro _ _ ⟨rfl, rfl⟩
        refine WR.val rfl (by simp only [push_cast, tbA_ty, Nat.reduceEqDiff, ↓reduceIte, hd2]; rfl) (WR.nil ?_)
        refine W.cond (b := decide (x ∈ l.take j)) (by simp only [push_cast, tbA_ty, Nat.reduceEqDiff, ↓reduceIte]) (fun hb => W.seq (W.region ?_)) (fun hb => W.skip ?_)
        · have hin : x ∈ l.take j := of_decide_eq_true hb
          refine WR.val rfl (by simp only [push_cast, tbA_ty, Nat.reduceEqDiff, ↓reduceIte]; rfl) (WR.nil (W.ret (hret _ (fun h => ?_) (by simp only [push_cast, tbA_ty, Nat.reduceEqDiff, ↓reduceIte]))))
          exact (h j hj).2.2 (hx ▸ hin)
        · have hin : x ∉ l.take j := of_decide_eq_false hb
          refine W.region ?_
          refine WR.val rfl (by simp only [push_cast, tbA_ty, Nat.reduceEqDiff, ↓reduceIte, f8]; rfl) ?_
          refine WR.val rfl (by simp only [push_cast, tbA_ty, Nat.reduceEqDiff, ↓reduceIte]; rfl) (WR.nil ⟨m - 1, by omega, j + 1, _, rfl, by omega, rfl, ?_, ?_, ?_, ?_, ?_⟩)
          · simp only [push_cast, tbA_ty, Nat.reduceEqDiff, ↓reduceIte, f1]
          · simp only [push_cast, tbA_ty, Nat.reduceEqDiff, ↓reduceIte, f6]
          · simp only [push_cast, tbA_ty, Nat.reduceEqDiff, ↓reduceIte, f7]
          · simp only [push_cast, tbA_ty, Nat.reduceEqDiff, ↓reduceIte]
            rw [show ((j : Int) + 1) = ((j + 1 : Nat) : Int) from by omega, i64_in _ (by omega)]
          · rw [okPre.succ, ← hx]
            exact ⟨hpre, by omega, by omega, hin⟩
  · have hj : j = l.length := by have := of_decide_eq_false hb; omega
    subst hj
    refine W.seq (W.region ?_)
    refine WR.val rfl (by simp only [push_cast, tbA_ty, Nat.reduceEqDiff, ↓reduceIte, f1]; exact faT f24_0 _ _) ?_
    refine WR.val rfl (by simp only [push_cast, tbA_ty, Nat.reduceEqDiff, ↓reduceIte]; exact hld0) ?_
    refine WR.val rfl (by simp only [push_cast, tbA_ty, Nat.reduceEqDiff, ↓reduceIte]; rfl) ?_
    refine WR.val rfl (by simp only [push_cast, tbA_ty, Nat.reduceEqDiff, ↓reduceIte]; rfl) ?_
    refine WR.val rfl (by simp only [push_cast, tbA_ty, Nat.reduceEqDiff, ↓reduceIte]; rfl) ?_
    have fin : ∀ (tm : Tr Value) (b : Bool), (b = true ↔ mayP k l) → tmA tm 2 = .bool b → (AX.ret = AX.normal ∨ AX.ret = AX.ret) ∧ (⟨tm, [], false, 18⟩ : AA).df = [] ∧ ∃ vs, resA tbA.ty (bare s1) tm Tryz.f18.results.toList = some vs ∧ tup vs = .bool (mayV k l) ∧ (keepMods (bare s) (bare s1)).mods = [] := fun tm b hbb h2 => by
      refine ⟨.inr rfl, rfl, [.bool b], ?_, ?_, rfl⟩
      · rw [show Tryz.f18.results.toList = [.tmp 2] from rfl, res1, h2]
      · cases b with
        | true => rw [mayV_true (hbb.1 rfl)]; rfl
        | false => rw [mayV_false fun h => by have := hbb.2 h; cases this]; rfl
    by_cases hk : (k.data.toList.length : Int) ≤ 200
    · have hdk : decide ((k.data.toList.length : Int) ≤ 200) = true := decide_eq_true hk
      refine WR.valG (d := 32) (b := true) rfl (by rfl) (by simp only [push_cast, tbA_ty, Nat.reduceEqDiff, ↓reduceIte, hdk]) rfl (by simp only [push_cast, tbA_ty, Nat.reduceEqDiff, ↓reduceIte, f1]; exact faT f24_1 _ _) ?_
      refine WR.valG (d := 32) (b := true) rfl (by rfl) (by simp only [push_cast, tbA_ty, Nat.reduceEqDiff, ↓reduceIte, hdk]) rfl (by simp only [push_cast, tbA_ty, Nat.reduceEqDiff, ↓reduceIte]; exact hld1) ?_
      refine WR.valG (d := 32) (b := true) rfl (by rfl) (by simp only [push_cast, tbA_ty, Nat.reduceEqDiff, ↓reduceIte, hdk]) rfl (by simp only [push_cast, tbA_ty, Nat.reduceEqDiff, ↓reduceIte, hvf]; rfl) ?_
      refine WR.valG (d := 32) (b := true) rfl (by rfl) (by simp only [push_cast, tbA_ty, Nat.reduceEqDiff, ↓reduceIte, hdk]) rfl (by simp only [push_cast, tbA_ty, Nat.reduceEqDiff, ↓reduceIte]; rfl) ?_
      refine WR.val rfl (by simp only [push_cast, tbA_ty, Nat.reduceEqDiff, ↓reduceIte, hdk]; rfl) ?_
      refine WR.val rfl (by simp only [push_cast, tbA_ty, Nat.reduceEqDiff, ↓reduceIte]; rfl) ?_
      by_cases hl1 : (l.length : Int) ≥ 1
      · have hd3 : decide ((l.length : Int) ≥ 1) = true := decide_eq_true hl1
        refine WR.valG (d := 38) (b := true) rfl (by rfl) (by simp only [push_cast, tbA_ty, Nat.reduceEqDiff, ↓reduceIte, hd3]) rfl (by simp only [push_cast, tbA_ty, Nat.reduceEqDiff, ↓reduceIte, f1]; exact faT f24_1 _ _) ?_
        refine WR.valG (d := 38) (b := true) rfl (by rfl) (by simp only [push_cast, tbA_ty, Nat.reduceEqDiff, ↓reduceIte, hd3]) rfl (by simp only [push_cast, tbA_ty, Nat.reduceEqDiff, ↓reduceIte]; exact hld1) ?_
        refine WR.valG (d := 38) (b := true) rfl (by rfl) (by simp only [push_cast, tbA_ty, Nat.reduceEqDiff, ↓reduceIte, hd3]) rfl (by simp only [push_cast, tbA_ty, Nat.reduceEqDiff, ↓reduceIte, hvf]; rfl) ?_
        refine WR.valG (d := 38) (b := true) rfl (by rfl) (by simp only [push_cast, tbA_ty, Nat.reduceEqDiff, ↓reduceIte, hd3]) rfl (by simp only [push_cast, tbA_ty, Nat.reduceEqDiff, ↓reduceIte]; rfl) ?_
        refine WR.val rfl (by simp only [push_cast, tbA_ty, Nat.reduceEqDiff, ↓reduceIte, hd3]; rfl) ?_
        refine WR.val rfl (by simp only [push_cast, tbA_ty, Nat.reduceEqDiff, ↓reduceIte]; rfl) (WR.nil (W.ret (fin _ (decide ((l.length : Int) ≤ 4)) ?_ (by simp only [push_cast, tbA_ty, Nat.reduceEqDiff, ↓reduceIte]))))
        rw [decide_eq_true_iff]
        exact ⟨fun h => ⟨hpre, by omega, by omega, by omega⟩, fun h => by have := h.2.2.2; omega⟩
      · have hd3 : decide ((l.length : Int) ≥ 1) = false := decide_eq_false hl1
        refine WR.passG (d := 38) (b := false) rfl (by rfl) (by simp only [push_cast, tbA_ty, Nat.reduceEqDiff, ↓reduceIte, hd3]) rfl ?_
        refine WR.passG (d := 38) (b := false) rfl (by rfl) (by simp only [push_cast, tbA_ty, Nat.reduceEqDiff, ↓reduceIte, hd3]) rfl ?_
        refine WR.passG (d := 38) (b := false) rfl (by rfl) (by simp only [push_cast, tbA_ty, Nat.reduceEqDiff, ↓reduceIte, hd3]) rfl ?_
        refine WR.passG (d := 38) (b := false) rfl (by rfl) (by simp only [push_cast, tbA_ty, Nat.reduceEqDiff, ↓reduceIte, hd3]) rfl ?_
        refine WR.val rfl (by simp only [push_cast, tbA_ty, Nat.reduceEqDiff, ↓reduceIte, hd3]; rfl) ?_
        refine WR.val rfl (by simp only [push_cast, tbA_ty, Nat.reduceEqDiff, ↓reduceIte]; rfl) (WR.nil (W.ret (fin _ false ?_ (by simp only [push_cast, tbA_ty, Nat.reduceEqDiff, ↓reduceIte]))))
        exact ⟨fun h => (by cases h), fun h => by have := h.2.2.1; omega⟩
    · have hdk : decide ((k.data.toList.length : Int) ≤ 200) = false := decide_eq_false hk
      refine WR.passG (d := 32) (b := false) rfl (by rfl) (by simp only [push_cast, tbA_ty, Nat.reduceEqDiff, ↓reduceIte, hdk]) rfl ?_
      refine WR.passG (d := 32) (b := false) rfl (by rfl) (by simp only [push_cast, tbA_ty, Nat.reduceEqDiff, ↓reduceIte, hdk]) rfl ?_
      refine WR.passG (d := 32) (b := false) rfl (by rfl) (by simp only [push_cast, tbA_ty, Nat.reduceEqDiff, ↓reduceIte, hdk]) rfl ?_
      refine WR.passG (d := 32) (b := false) rfl (by rfl) (by simp only [push_cast, tbA_ty, Nat.reduceEqDiff, ↓reduceIte, hdk]) rfl ?_
      refine WR.val rfl (by simp only [push_cast, tbA_ty, Nat.reduceEqDiff, ↓reduceIte, hdk]; rfl) ?_
      refine WR.val rfl (by simp only [push_cast, tbA_ty, Nat.reduceEqDiff, ↓reduceIte]; rfl) ?_
      refine WR.passG (d := 38) (b := false) rfl (by rfl) (by simp only [push_cast, tbA_ty, Nat.reduceEqDiff, ↓reduceIte, hdk]) rfl ?_
      refine WR.passG (d := 38) (b := false) rfl (by rfl) (by simp only [push_cast, tbA_ty, Nat.reduceEqDiff, ↓reduceIte, hdk]) rfl ?_
      refine WR.passG (d := 38) (b := false) rfl (by rfl) (by simp only [push_cast, tbA_ty, Nat.reduceEqDiff, ↓reduceIte, hdk]) rfl ?_
      refine WR.passG (d := 38) (b := false) rfl (by rfl) (by simp only [push_cast, tbA_ty, Nat.reduceEqDiff, ↓reduceIte, hdk]) rfl ?_
      refine WR.val rfl (by simp only [push_cast, tbA_ty, Nat.reduceEqDiff, ↓reduceIte]; rfl) ?_
      refine WR.val rfl (by simp only [push_cast, tbA_ty, Nat.reduceEqDiff, ↓reduceIte]; rfl) (WR.nil (W.ret (fin _ false ?_ (by simp only [push_cast, tbA_ty, Nat.reduceEqDiff, ↓reduceIte]))))
      exact ⟨fun h => (by cases h), fun h => by have := h.2.1; omega⟩
end Go.Proofs.Ae
namespace Go.Proofs.Ae
open Go.Proofs
set_option maxHeartbeats 4000000
noncomputable def rmay_0 : Array Oper := opsAt Tryz.f8 [0]
noncomputable def rmay_1 : Array Oper := opsAt Tryz.f8 [1, 0, 0]
noncomputable def rmay_2 : Array Oper := opsAt Tryz.f8 [1, 0, 1, 0, 0]
noncomputable def rmay_3 : Array Oper := opsAt Tryz.f8 [1, 1, 0, 0]
noncomputable def rmay_4 : Array Oper := opsAt Tryz.f8 [1, 1, 0, 1, 0, 0, 0, 0]
noncomputable def rmay_5 : Array Oper := opsAt Tryz.f8 [1, 1, 0, 1, 0, 0, 1, 0, 0, 0, 0]
noncomputable def rmay_6 : Array Oper := opsAt Tryz.f8 [1, 1, 0, 1, 0, 0, 1, 0, 0, 0, 1, 0, 0]
noncomputable def rmay_7 : Array Oper := opsAt Tryz.f8 [1, 1, 0, 1, 0, 0, 1, 0, 0, 1, 0]
noncomputable def rmay_8 : Array Oper := opsAt Tryz.f8 [1, 1, 0, 1, 0, 0, 1, 0, 0, 1, 1, 0, 0, 0, 0]
noncomputable def rmay_9 : Array Oper := opsAt Tryz.f8 [1, 1, 0, 1, 0, 0, 1, 0, 0, 1, 1, 0, 0, 1, 0, 0, 0]
noncomputable def rmay_10 : Array Oper := opsAt Tryz.f8 [1, 1, 0, 1, 0, 0, 1, 0, 0, 1, 1, 0, 0, 1, 0, 0, 1, 0, 0]
noncomputable def rmay_11 : Array Oper := opsAt Tryz.f8 [1, 1, 0, 1, 0, 0, 1, 0, 0, 1, 1, 0, 0, 1, 1]
noncomputable def rmay_12 : Array Oper := opsAt Tryz.f8 [1, 1, 0, 1, 0, 0, 1, 1]
noncomputable def rmay_13 : Array Oper := opsAt Tryz.f8 [1, 1, 1, 0]
theorem rmay_body : Tryz.f8.body = some (.seq (.region 0 rmay_0 false) (.seq (.seq (.region 1 rmay_1 false) (.cond (.tmp 20) (.seq (.region 2 rmay_2 false) .ret) .skip)) (.seq (.seq (.region 3 rmay_3 false) (.block 0 (.loop (.seq (.seq (.region 4 rmay_4 false) (.cond (.tmp 25) .skip (.exit 0))) (.seq (.block 1 (.seq (.seq (.region 6 rmay_5 false) (.cond (.tmp 41) (.seq (.region 7 rmay_6 false) .ret) .skip)) (.seq (.region 8 rmay_7 false) (.block 2 (.loop (.seq (.seq (.region 9 rmay_8 false) (.cond (.tmp 44) .skip (.exit 2))) (.seq (.block 3 (.seq (.region 11 rmay_9 true) (.cond (.tmp 57) (.seq (.region 12 rmay_10 false) .ret) .skip))) (.region 10 rmay_11 false)))))))) (.region 5 rmay_12 false)))))) (.seq (.region 13 rmay_13 false) .ret)))) := by kernel_rfl
theorem mem_take {l : List Int} {j : Nat} {x : Int} : x ∈ l.take j ↔ ∃ i, i < j ∧ i < l.length ∧ atI l i = x := by
  rw [List.mem_iff_getElem?]
  refine ⟨fun ⟨i, hi⟩ => ?_, fun ⟨i, h1, h2, h3⟩ => ⟨i, ?_⟩⟩
  · have hlt : i < (l.take j).length := (List.getElem?_eq_some_iff.1 hi).1
    rw [List.length_take] at hlt
    rw [List.getElem?_take_of_lt (by omega)] at hi
    exact ⟨i, by omega, by omega, by simp [atI, List.getD_eq_getElem?_getD, hi]⟩
  · rw [List.getElem?_take_of_lt h1, List.getElem?_eq_getElem h2]
    rw [← h3, atI, List.getD_eq_getElem?_getD, List.getElem?_eq_getElem h2]; rfl
theorem rmay_C (s : St) (hok : s.Ok) (k : ByteArray) (hv : Value) (l : List Int) (hH : HV s hv l) (hl : l.length < 9223372036854775808) : CP tbA 8 [.agg #[.string k, hv]] (bare s) (fun v s' => v = .bool (mayV k l) ∧ s'.mods = []) := by
  refine CP.of rfl (by kernel_rfl) rmay_body (Nat.le_of_ble_eq_true rfl) ?_
  have e0 : tmA (argsTr [.agg #[.string k, hv]] 0 .nil) 0 = .agg #[.string k, hv] := rfl
  generalize argsTr [.agg #[.string k, hv]] 0 .nil = t0 at e0 ⊢
  refine W.seq (W.region ?_)
  refine WR.val rfl (by simp only [push_cast, tbA_ty, Nat.reduceEqDiff, ↓reduceIte, e0]; rfl) ?_
  refine WR.val rfl (by simp only [push_cast, tbA_ty, Nat.reduceEqDiff, ↓reduceIte]; rfl) (WR.nil ?_)
  obtain ⟨s1, hs1⟩ : ∃ s1, s1 = s.alloc (.cells (ofC k hv) .exact) := ⟨_, rfl⟩
  have hg1 : s1.get s.next = some (.cells (ofC k hv) .exact) := by rw [hs1]; exact St.get_alloc_self _ _
  have hH1 : HV s1 hv l := hH.mono fun i hi => by rw [hs1]; exact St.get_alloc_ne _ _ _ (by have := hok i hi; omega)
  obtain ⟨aa, cp, hvf⟩ := hH.form
  change W tbA _ _ (bare s1 |> fun _ => bare (s.alloc (.cells (ofC k hv) .exact))) _
  rw [show (bare s1 |> fun _ => bare (s.alloc (.cells (ofC k hv) .exact))) = bare s1 from by rw [hs1]]
  have hld1 : loadA (bare s1) (.pointer (some ⟨s.next, 1, none⟩)) (tyT.get 22) = some (.val hv, bare s1) := ldT one22 _ _ _ _ (by rw [bare_get, hg1]; rfl)
  have hld0 : loadA (bare s1) (.pointer (some ⟨s.next, 0, none⟩)) (tyT.get 9) = some (.val (.string k), bare s1) := ldT one9 _ _ _ _ (by rw [bare_get, hg1]; rfl)
  have hlenA : lenA (bare s1) (.slice 3) hv = some (.val (.int .i64 (l.length : Int)), bare s1) := by rw [hvf]; rfl
  have hret : ∀ (tm : Tr Value) (b : Bool), (b = true ↔ mayP k l) → tmA tm 2 = .bool b → (AX.ret = AX.normal ∨ AX.ret = AX.ret) ∧ (⟨tm, [], false, 8⟩ : AA).df = [] ∧ ∃ vs, resA tbA.ty (bare s1) tm Tryz.f8.results.toList = some vs ∧ tup vs = .bool (mayV k l) ∧ (keepMods (bare s) (bare s1)).mods = [] := fun tm b hbb h2 => by
    refine ⟨.inr rfl, rfl, [.bool b], ?_, ?_, rfl⟩
    · rw [show Tryz.f8.results.toList = [.tmp 2] from rfl, res1, h2]
    · cases b with
      | true => rw [mayV_true (hbb.1 rfl)]; rfl
      | false => rw [mayV_false fun h => by have := hbb.2 h; cases this]; rfl
  have hnot : ¬ mayP k l → ((false : Bool) = true ↔ mayP k l) := fun h => ⟨fun e => (by cases e), fun e => absurd e h⟩
  refine W.seq (W.seq (W.region ?_))
  refine WR.val rfl (by simp only [push_cast, tbA_ty, Nat.reduceEqDiff, ↓reduceIte]; exact faT f24_0 _ _) ?_
  refine WR.val rfl (by simp only [push_cast, tbA_ty, Nat.reduceEqDiff, ↓reduceIte]; exact hld0) ?_
  iterate 3 refine WR.val rfl (by simp only [push_cast, tbA_ty, Nat.reduceEqDiff, ↓reduceIte]; rfl) ?_
  by_cases hk : (k.data.toList.length : Int) > 200
  · have hdk : decide ((k.data.toList.length : Int) > 200) = true := decide_eq_true hk
    refine WR.passG (d := 9) (b := true) rfl (by rfl) (by simp only [push_cast, tbA_ty, Nat.reduceEqDiff, ↓reduceIte, hdk]) rfl ?_
    refine WR.passG (d := 9) (b := true) rfl (by rfl) (by simp only [push_cast, tbA_ty, Nat.reduceEqDiff, ↓reduceIte, hdk]) rfl ?_
    refine WR.passG (d := 9) (b := true) rfl (by rfl) (by simp only [push_cast, tbA_ty, Nat.reduceEqDiff, ↓reduceIte, hdk]) rfl ?_
    refine WR.passG (d := 9) (b := true) rfl (by rfl) (by simp only [push_cast, tbA_ty, Nat.reduceEqDiff, ↓reduceIte, hdk]) rfl ?_
    refine WR.val rfl (by simp only [push_cast, tbA_ty, Nat.reduceEqDiff, ↓reduceIte, hdk]; rfl) ?_
    refine WR.val rfl (by simp only [push_cast, tbA_ty, Nat.reduceEqDiff, ↓reduceIte]; rfl) ?_
    refine WR.passG (d := 15) (b := true) rfl (by rfl) (by simp only [push_cast, tbA_ty, Nat.reduceEqDiff, ↓reduceIte, hdk]) rfl ?_
    refine WR.passG (d := 15) (b := true) rfl (by rfl) (by simp only [push_cast, tbA_ty, Nat.reduceEqDiff, ↓reduceIte, hdk]) rfl ?_
    refine WR.passG (d := 15) (b := true) rfl (by rfl) (by simp only [push_cast, tbA_ty, Nat.reduceEqDiff, ↓reduceIte, hdk]) rfl ?_
    refine WR.passG (d := 15) (b := true) rfl (by rfl) (by simp only [push_cast, tbA_ty, Nat.reduceEqDiff, ↓reduceIte, hdk]) rfl ?_
    refine WR.val rfl (by simp only [push_cast, tbA_ty, Nat.reduceEqDiff, ↓reduceIte]; rfl) (WR.nil ?_)
    refine W.cond (b := true) (by simp only [push_cast, tbA_ty, Nat.reduceEqDiff, ↓reduceIte]) (fun _ => W.seq (W.region ?_)) (fun h => by cases h)
    refine WR.val rfl (by simp only [push_cast, tbA_ty, Nat.reduceEqDiff, ↓reduceIte]; rfl) (WR.nil (W.ret (hret _ false (hnot fun h => ?_) (by simp only [push_cast, tbA_ty, Nat.reduceEqDiff, ↓reduceIte]))))
    have := h.2.1
    omega
  have hdk : decide ((k.data.toList.length : Int) > 200) = false := decide_eq_false hk
  refine WR.valG (d := 9) (b := false) rfl (by rfl) (by simp only [push_cast, tbA_ty, Nat.reduceEqDiff, ↓reduceIte, hdk]) rfl (by simp only [push_cast, tbA_ty, Nat.reduceEqDiff, ↓reduceIte]; exact faT f24_1 _ _) ?_
  refine WR.valG (d := 9) (b := false) rfl (by rfl) (by simp only [push_cast, tbA_ty, Nat.reduceEqDiff, ↓reduceIte, hdk]) rfl (by simp only [push_cast, tbA_ty, Nat.reduceEqDiff, ↓reduceIte]; exact hld1) ?_
  refine WR.valG (d := 9) (b := false) rfl (by rfl) (by simp only [push_cast, tbA_ty, Nat.reduceEqDiff, ↓reduceIte, hdk]) rfl (by simp only [push_cast, tbA_ty, Nat.reduceEqDiff, ↓reduceIte, hvf]; rfl) ?_
  refine WR.valG (d := 9) (b := false) rfl (by rfl) (by simp only [push_cast, tbA_ty, Nat.reduceEqDiff, ↓reduceIte, hdk]) rfl (by simp only [push_cast, tbA_ty, Nat.reduceEqDiff, ↓reduceIte]; rfl) ?_
  refine WR.val rfl (by simp only [push_cast, tbA_ty, Nat.reduceEqDiff, ↓reduceIte, hdk]; rfl) ?_
  refine WR.val rfl (by simp only [push_cast, tbA_ty, Nat.reduceEqDiff, ↓reduceIte]; rfl) ?_
  by_cases hl1 : (l.length : Int) < 1
  · have hd3 : decide ((l.length : Int) < 1) = true := decide_eq_true hl1
    refine WR.passG (d := 15) (b := true) rfl (by rfl) (by simp only [push_cast, tbA_ty, Nat.reduceEqDiff, ↓reduceIte, hd3]) rfl ?_
    refine WR.passG (d := 15) (b := true) rfl (by rfl) (by simp only [push_cast, tbA_ty, Nat.reduceEqDiff, ↓reduceIte, hd3]) rfl ?_
    refine WR.passG (d := 15) (b := true) rfl (by rfl) (by simp only [push_cast, tbA_ty, Nat.reduceEqDiff, ↓reduceIte, hd3]) rfl ?_
    refine WR.passG (d := 15) (b := true) rfl (by rfl) (by simp only [push_cast, tbA_ty, Nat.reduceEqDiff, ↓reduceIte, hd3]) rfl ?_
    refine WR.val rfl (by simp only [push_cast, tbA_ty, Nat.reduceEqDiff, ↓reduceIte, hd3]; rfl) (WR.nil ?_)
    refine W.cond (b := true) (by simp only [push_cast, tbA_ty, Nat.reduceEqDiff, ↓reduceIte]) (fun _ => W.seq (W.region ?_)) (fun h => by cases h)
    refine WR.val rfl (by simp only [push_cast, tbA_ty, Nat.reduceEqDiff, ↓reduceIte]; rfl) (WR.nil (W.ret (hret _ false (hnot fun h => ?_) (by simp only [push_cast, tbA_ty, Nat.reduceEqDiff, ↓reduceIte]))))
    have := h.2.2.1
    omega
  have hd3 : decide ((l.length : Int) < 1) = false := decide_eq_false hl1
  refine WR.valG (d := 15) (b := false) rfl (by rfl) (by simp only [push_cast, tbA_ty, Nat.reduceEqDiff, ↓reduceIte, hd3]) rfl (by simp only [push_cast, tbA_ty, Nat.reduceEqDiff, ↓reduceIte]; exact faT f24_1 _ _) ?_
  refine WR.valG (d := 15) (b := false) rfl (by rfl) (by simp only [push_cast, tbA_ty, Nat.reduceEqDiff, ↓reduceIte, hd3]) rfl (by simp only [push_cast, tbA_ty, Nat.reduceEqDiff, ↓reduceIte]; exact hld1) ?_
  refine WR.valG (d := 15) (b := false) rfl (by rfl) (by simp only [push_cast, tbA_ty, Nat.reduceEqDiff, ↓reduceIte, hd3]) rfl (by simp only [push_cast, tbA_ty, Nat.reduceEqDiff, ↓reduceIte, hvf]; rfl) ?_
  refine WR.valG (d := 15) (b := false) rfl (by rfl) (by simp only [push_cast, tbA_ty, Nat.reduceEqDiff, ↓reduceIte, hd3]) rfl (by simp only [push_cast, tbA_ty, Nat.reduceEqDiff, ↓reduceIte]; rfl) ?_
  refine WR.val rfl (by simp only [push_cast, tbA_ty, Nat.reduceEqDiff, ↓reduceIte, hd3]; rfl) (WR.nil ?_)
  refine W.cond (b := decide ((l.length : Int) > 4)) (by simp only [push_cast, tbA_ty, Nat.reduceEqDiff, ↓reduceIte]) (fun hb => W.seq (W.region ?_)) (fun hb => W.skip ?_)
  · have hl4 : (l.length : Int) > 4 := of_decide_eq_true hb
    refine WR.val rfl (by simp only [push_cast, tbA_ty, Nat.reduceEqDiff, ↓reduceIte]; rfl) (WR.nil (W.ret (hret _ false (hnot fun h => ?_) (by simp only [push_cast, tbA_ty, Nat.reduceEqDiff, ↓reduceIte]))))
    have := h.2.2.2
    omega
  have hl4 : ¬ (l.length : Int) > 4 := of_decide_eq_false hb
  refine W.seq (W.seq (W.region ?_))
  refine WR.val rfl (by simp only [push_cast, tbA_ty, Nat.reduceEqDiff, ↓reduceIte]; rfl) (WR.nil ?_)
  refine W.block (W.loop (fun m a s' => ∃ (j : Nat) (tm : Tr Value), a = ⟨tm, [], false, 8⟩ ∧ j + m = l.length ∧ s' = bare s1 ∧ tmA tm 1 = .pointer (some ⟨s.next, 0, none⟩) ∧ tmA tm 3 = .int .i64 (j : Int) ∧ okPre l j) ?_ l.length _ _ ⟨0, _, rfl, by omega, rfl, ?_, ?_, fun i hi => absurd hi (by omega)⟩)
  rotate_left
  · simp only [push_cast, tbA_ty, Nat.reduceEqDiff, ↓reduceIte]; rfl
  · simp only [push_cast, tbA_ty, Nat.reduceEqDiff, ↓reduceIte]
  rintro m a s' ⟨j, tm, rfl, hm, rfl, f1, f3, hpre⟩
  refine W.seq (W.seq (W.region ?_))
  refine WR.val rfl (by simp only [push_cast, tbA_ty, Nat.reduceEqDiff, ↓reduceIte, f3]; rfl) ?_
  refine WR.val rfl (by simp only [push_cast, tbA_ty, Nat.reduceEqDiff, ↓reduceIte, f1]; exact faT f24_1 _ _) ?_
  refine WR.val rfl (by simp only [push_cast, tbA_ty, Nat.reduceEqDiff, ↓reduceIte]; exact hld1) ?_
  refine WR.val rfl (by simp only [push_cast, tbA_ty, Nat.reduceEqDiff, ↓reduceIte, hvf]; rfl) ?_
  refine WR.val rfl (by simp only [push_cast, tbA_ty, Nat.reduceEqDiff, ↓reduceIte]; rfl) (WR.nil ?_)
  refine W.cond (b := decide ((j : Int) < (l.length : Int))) (by simp only [push_cast, tbA_ty, Nat.reduceEqDiff, ↓reduceIte]) (fun hb => W.skip ?_) (fun hb => W.exit ?_)
  · have hj : j < l.length := by have := of_decide_eq_true hb; omega
    obtain ⟨p, hix, hld⟩ := hH1.elem hj
    obtain ⟨x, hx⟩ : ∃ x, x = atI l j := ⟨_, rfl⟩
    rw [← hx] at hld
    refine W.seq (W.block (W.seq (W.seq (W.region ?_))))
    refine WR.val rfl (by simp only [push_cast, tbA_ty, Nat.reduceEqDiff, ↓reduceIte, f1]; exact faT f24_1 _ _) ?_
    refine WR.val rfl (by simp only [push_cast, tbA_ty, Nat.reduceEqDiff, ↓reduceIte]; exact hld1) ?_
    refine WR.val rfl (by simp only [push_cast, tbA_ty, Nat.reduceEqDiff, ↓reduceIte, f3]; rfl) ?_
    refine WR.val rfl (by simp only [push_cast, tbA_ty, Nat.reduceEqDiff, ↓reduceIte]; exact hix _ _) ?_
    refine WR.val rfl (by simp only [push_cast, tbA_ty, Nat.reduceEqDiff, ↓reduceIte]; exact hld _ rfl) ?_
    iterate 2 refine WR.val rfl (by simp only [push_cast, tbA_ty, Nat.reduceEqDiff, ↓reduceIte]; rfl) ?_
    by_cases hc1 : x < 1
    · have hd1 : decide (x < 1) = true := decide_eq_true hc1
      refine WR.passG (d := 34) (b := true) rfl (by rfl) (by simp only [push_cast, tbA_ty, Nat.reduceEqDiff, ↓reduceIte, hd1]) rfl ?_
      refine WR.passG (d := 34) (b := true) rfl (by rfl) (by simp only [push_cast, tbA_ty, Nat.reduceEqDiff, ↓reduceIte, hd1]) rfl ?_
      refine WR.passG (d := 34) (b := true) rfl (by rfl) (by simp only [push_cast, tbA_ty, Nat.reduceEqDiff, ↓reduceIte, hd1]) rfl ?_
      refine WR.passG (d := 34) (b := true) rfl (by rfl) (by simp only [push_cast, tbA_ty, Nat.reduceEqDiff, ↓reduceIte, hd1]) rfl ?_
      refine WR.passG (d := 34) (b := true) rfl (by rfl) (by simp only [push_cast, tbA_ty, Nat.reduceEqDiff, ↓reduceIte, hd1]) rfl ?_
      refine WR.passG (d := 34) (b := true) rfl (by rfl) (by simp only [push_cast, tbA_ty, Nat.reduceEqDiff, ↓reduceIte, hd1]) rfl ?_
      refine WR.val rfl (by simp only [push_cast, tbA_ty, Nat.reduceEqDiff, ↓reduceIte, hd1]; rfl) (WR.nil ?_)
      refine W.cond (b := true) (by simp only [push_cast, tbA_ty, Nat.reduceEqDiff, ↓reduceIte]) (fun _ => W.seq (W.region ?_)) (fun h => by cases h)
      refine WR.val rfl (by simp only [push_cast, tbA_ty, Nat.reduceEqDiff, ↓reduceIte]; rfl) (WR.nil (W.ret (hret _ false (hnot fun h => ?_) (by simp only [push_cast, tbA_ty, Nat.reduceEqDiff, ↓reduceIte]))))
      have := (h.1 j hj).1
      omega
    have hd1 : decide (x < 1) = false := decide_eq_false hc1
    refine WR.valG (d := 34) (b := false) rfl (by rfl) (by simp only [push_cast, tbA_ty, Nat.reduceEqDiff, ↓reduceIte, hd1]) rfl (by simp only [push_cast, tbA_ty, Nat.reduceEqDiff, ↓reduceIte, f1]; exact faT f24_1 _ _) ?_
    refine WR.valG (d := 34) (b := false) rfl (by rfl) (by simp only [push_cast, tbA_ty, Nat.reduceEqDiff, ↓reduceIte, hd1]) rfl (by simp only [push_cast, tbA_ty, Nat.reduceEqDiff, ↓reduceIte]; exact hld1) ?_
    refine WR.valG (d := 34) (b := false) rfl (by rfl) (by simp only [push_cast, tbA_ty, Nat.reduceEqDiff, ↓reduceIte, hd1]) rfl (by simp only [push_cast, tbA_ty, Nat.reduceEqDiff, ↓reduceIte, f3]; rfl) ?_
    refine WR.valG (d := 34) (b := false) rfl (by rfl) (by simp only [push_cast, tbA_ty, Nat.reduceEqDiff, ↓reduceIte, hd1]) rfl (by simp only [push_cast, tbA_ty, Nat.reduceEqDiff, ↓reduceIte]; exact hix _ _) ?_
    refine WR.valG (d := 34) (b := false) rfl (by rfl) (by simp only [push_cast, tbA_ty, Nat.reduceEqDiff, ↓reduceIte, hd1]) rfl (by simp only [push_cast, tbA_ty, Nat.reduceEqDiff, ↓reduceIte]; exact hld _ rfl) ?_
    refine WR.valG (d := 34) (b := false) rfl (by rfl) (by simp only [push_cast, tbA_ty, Nat.reduceEqDiff, ↓reduceIte, hd1]) rfl (by simp only [push_cast, tbA_ty, Nat.reduceEqDiff, ↓reduceIte]; rfl) ?_
    refine WR.val rfl (by simp only [push_cast, tbA_ty, Nat.reduceEqDiff, ↓reduceIte, hd1]; rfl) (WR.nil ?_)
    refine W.cond (b := decide (x > 65535)) (by simp only [push_cast, tbA_ty, Nat.reduceEqDiff, ↓reduceIte]) (fun hb => W.seq (W.region ?_)) (fun hb => W.skip ?_)
    · have hc2 : x > 65535 := of_decide_eq_true hb
      refine WR.val rfl (by simp only [push_cast, tbA_ty, Nat.reduceEqDiff, ↓reduceIte]; rfl) (WR.nil (W.ret (hret _ false (hnot fun h => ?_) (by simp only [push_cast, tbA_ty, Nat.reduceEqDiff, ↓reduceIte]))))
      have := (h.1 j hj).2.1
      omega
    have hc2 : ¬ x > 65535 := of_decide_eq_false hb
    refine W.seq (W.region ?_)
    refine WR.val rfl (by simp only [push_cast, tbA_ty, Nat.reduceEqDiff, ↓reduceIte]; rfl) (WR.nil ?_)
    refine W.block (W.loop (fun m2 a s' => ∃ (q : Nat) (tm : Tr Value), a = ⟨tm, [], false, 8⟩ ∧ q + m2 = j ∧ s' = bare s1 ∧ tmA tm 1 = .pointer (some ⟨s.next, 0, none⟩) ∧ tmA tm 3 = .int .i64 (j : Int) ∧ tmA tm 4 = .int .i64 (q : Int) ∧ x ∉ l.take q) ?_ j _ _ ⟨0, _, rfl, by omega, rfl, ?_, ?_, ?_, by simp⟩)
    rotate_left
    · simp only [push_cast, tbA_ty, Nat.reduceEqDiff, ↓reduceIte, f1]
    · simp only [push_cast, tbA_ty, Nat.reduceEqDiff, ↓reduceIte, f3]
    · simp only [push_cast, tbA_ty, Nat.reduceEqDiff, ↓reduceIte]
    rintro m2 a s' ⟨q, tm2, rfl, hm2, rfl, g1', g3', g4', hno⟩
    refine W.seq (W.seq (W.region ?_))
    iterate 3 refine WR.val rfl (by simp only [push_cast, tbA_ty, Nat.reduceEqDiff, ↓reduceIte, g3', g4']; rfl) ?_
    refine WR.nil (W.cond (b := decide ((q : Int) < (j : Int))) (by simp only [push_cast, tbA_ty, Nat.reduceEqDiff, ↓reduceIte]) (fun hb => W.skip ?_) (fun hb => W.exit ?_))
    · have hq : q < j := by have := of_decide_eq_true hb; omega
      obtain ⟨p2, hix2, hld2⟩ := hH1.elem (i := q) (by omega)
      refine W.seq (W.block (W.seq (W.draw ?_)))
      refine WD.q rfl rfl (by simp only [push_cast, tbA_ty, Nat.reduceEqDiff, ↓reduceIte, g1']; exact faT f24_1 _ _) ?_
      refine WD.q rfl rfl (by simp only [push_cast, tbA_ty, Nat.reduceEqDiff, ↓reduceIte]; exact hld1) ?_
      refine WD.q rfl rfl (by simp only [push_cast, tbA_ty, Nat.reduceEqDiff, ↓reduceIte, g4']; rfl) ?_
      refine WD.q rfl rfl (by simp only [push_cast, tbA_ty, Nat.reduceEqDiff, ↓reduceIte]; exact hix2 _ _) ?_
      refine WD.q rfl rfl (by simp only [push_cast, tbA_ty, Nat.reduceEqDiff, ↓reduceIte]; exact hld2 _ rfl) ?_
      refine WD.q rfl rfl (by simp only [push_cast, tbA_ty, Nat.reduceEqDiff, ↓reduceIte, g1']; exact faT f24_1 _ _) ?_
      refine WD.q rfl rfl (by simp only [push_cast, tbA_ty, Nat.reduceEqDiff, ↓reduceIte]; exact hld1) ?_
      refine WD.q rfl rfl (by simp only [push_cast, tbA_ty, Nat.reduceEqDiff, ↓reduceIte, g3']; rfl) ?_
      refine WD.q rfl rfl (by simp only [push_cast, tbA_ty, Nat.reduceEqDiff, ↓reduceIte]; exact hix _ _) ?_
      refine WD.q rfl rfl (by simp only [push_cast, tbA_ty, Nat.reduceEqDiff, ↓reduceIte]; exact hld _ rfl) ?_
      refine WD.q rfl rfl (by simp only [push_cast, tbA_ty, Nat.reduceEqDiff, ↓reduceIte]; rfl) (WD.nil ?_)
      refine W.cond (b := decide (atI l q = x)) (by simp only [push_cast, tbA_ty, Nat.reduceEqDiff, ↓reduceIte]) (fun hb => W.seq (W.region ?_)) (fun hb => W.skip ?_)
      · have he : atI l q = x := of_decide_eq_true hb
        refine WR.val rfl (by simp only [push_cast, tbA_ty, Nat.reduceEqDiff, ↓reduceIte]; rfl) (WR.nil (W.ret (hret _ false (hnot fun h => ?_) (by simp only [push_cast, tbA_ty, Nat.reduceEqDiff, ↓reduceIte]))))
        exact (h.1 j hj).2.2 (mem_take.2 ⟨q, hq, by omega, by rw [he, hx]⟩)
      · have he : atI l q ≠ x := of_decide_eq_false hb
        refine W.region ?_
        iterate 3 refine WR.val rfl (by simp only [push_cast, tbA_ty, Nat.reduceEqDiff, ↓reduceIte, g4']; rfl) ?_
        refine WR.nil ⟨m2 - 1, by omega, q + 1, _, rfl, by omega, rfl, ?_, ?_, ?_, ?_⟩
        · simp only [push_cast, tbA_ty, Nat.reduceEqDiff, ↓reduceIte, g1']
        · simp only [push_cast, tbA_ty, Nat.reduceEqDiff, ↓reduceIte, g3']
        · simp only [push_cast, tbA_ty, Nat.reduceEqDiff, ↓reduceIte]
          rw [show ((q : Int) + 1) = ((q + 1 : Nat) : Int) from by omega, i64_in _ (by omega)]
        · intro h
          obtain ⟨i, h1, h2, h3⟩ := mem_take.1 h
          by_cases e : i = q
          · subst e; exact he h3
          · exact hno (mem_take.2 ⟨i, by omega, h2, h3⟩)
    · have hq : q = j := by have := of_decide_eq_false hb; omega
      subst hq
      refine W.region ?_
      iterate 3 refine WR.val rfl (by simp only [push_cast, tbA_ty, Nat.reduceEqDiff, ↓reduceIte, g3']; rfl) ?_
      refine WR.nil ⟨m - 1, by omega, q + 1, _, rfl, by omega, rfl, ?_, ?_, ?_⟩
      · simp only [push_cast, tbA_ty, Nat.reduceEqDiff, ↓reduceIte, g1']
      · simp only [push_cast, tbA_ty, Nat.reduceEqDiff, ↓reduceIte]
        rw [show ((q : Int) + 1) = ((q + 1 : Nat) : Int) from by omega, i64_in _ (by omega)]
      · rw [okPre.succ, ← hx]
        exact ⟨hpre, by omega, by omega, hno⟩
  · have hj : j = l.length := by have := of_decide_eq_false hb; omega
    subst hj
    refine W.seq (W.region ?_)
    refine WR.val rfl (by simp only [push_cast, tbA_ty, Nat.reduceEqDiff, ↓reduceIte]; rfl) (WR.nil (W.ret (hret _ true ⟨fun _ => ⟨hpre, by omega, by omega, by omega⟩, fun _ => rfl⟩ (by simp only [push_cast, tbA_ty, Nat.reduceEqDiff, ↓reduceIte]))))
end Go.Proofs.Ae
namespace Go.Proofs.Ae
open Go.Proofs
set_option maxHeartbeats 4000000
theorem wrap_u8 (x : Int) : ∃ m : Nat, m < 256 ∧ IntKind.u8.wrap x = (m : Int) := by
  refine ⟨(x % 256).toNat, by omega, ?_⟩
  have h : IntKind.u8.wrap x = x % 256 := by
    simp [IntKind.wrap, IntKind.signed, IntKind.bits]
  rw [h]; omega
theorem natOf_of : ∀ (ns : List Nat), (∀ x ∈ ns, x < 256) → natOf (u8s (nI ns)) = some ns
  | [], _ => rfl
  | n :: ns, h => by
    have h1 : Nat.ble n 255 = true := Nat.ble_eq_true_of_le (by have := h n (by simp); omega)
    change natOf (.int .u8 (.ofNat n) :: u8s (nI ns)) = _
    rw [natOf_cons]
    simp only [h1, cond_true, natOf_of ns (fun x hx => h x (by simp [hx]))]
theorem srcN_of {s : St} {b o n c : Nat} {ns : List Nat} (h : BytesAt s b o (nI ns)) (hn : n = ns.length) (hb : ∀ x ∈ ns, x < 256) : srcN s (.slice (some ⟨b, o, none⟩) n c) = some ns := by
  have := h.cells
  rw [nI_len, ← hn] at this
  unfold srcN
  simp only [this, natOf_of ns hb]
theorem strOf_bytes : ∀ l : List Nat, ∃ r, strOf (bytesN l) = some r ∧ r.length = l.length
  | [] => ⟨[], rfl, rfl⟩
  | n :: l => by
    obtain ⟨r, h1, h2⟩ := strOf_bytes l
    refine ⟨UInt8.ofNat (Int.ofNat n).toNat :: r, ?_, by simp [h2]⟩
    change (match byteOf (.int .u8 (Int.ofNat n)) with | some c => (match strOf (bytesN l) with | some r => some (c :: r) | none => none) | none => none) = _
    rw [h1]; rfl
noncomputable def kmay_0 : Array Oper := opsAt Tryz.f89 [0]
noncomputable def kmay_1 : Array Oper := opsAt Tryz.f89 [1, 0]
theorem kmay_body : Tryz.f89.body = some (.seq (.region 0 kmay_0 false) (.seq (.region 1 kmay_1 false) .ret)) := by kernel_rfl
theorem kmay_C (s : St) (k : ByteArray) : CP tbA 89 [.string k] (bare s) (fun v s' => s' = bare s ∧ v = .bool (decide ((k.data.toList.length : Int) ≤ 200))) := by
  refine CP.of rfl (by kernel_rfl) kmay_body (Nat.le_of_ble_eq_true rfl) ?_
  have e0 : tmA (argsTr [.string k] 0 .nil) 0 = .string k := rfl
  generalize argsTr [.string k] 0 .nil = t0 at e0 ⊢
  refine W.seq (W.region ?_)
  refine WR.val rfl (by simp only [push_cast, tbA_ty, Nat.reduceEqDiff, ↓reduceIte]; rfl) (WR.nil ?_)
  refine W.seq (W.region ?_)
  iterate 4 refine WR.val rfl (by simp only [push_cast, tbA_ty, Nat.reduceEqDiff, ↓reduceIte, e0]; rfl) ?_
  refine WR.nil (W.ret ⟨.inr rfl, rfl, [.bool (decide ((k.data.toList.length : Int) ≤ 200))], ?_, rfl, rfl⟩)
  rw [show Tryz.f89.results.toList = [.tmp 2] from rfl, res1]
  simp only [push_cast, tbA_ty, Nat.reduceEqDiff, ↓reduceIte]
noncomputable def key_0 : Array Oper := opsAt Tryz.f47 [0]
noncomputable def key_1 : Array Oper := opsAt Tryz.f47 [1, 0, 0, 0]
noncomputable def key_2 : Array Oper := opsAt Tryz.f47 [1, 0, 0, 1, 0, 0]
noncomputable def key_3 : Array Oper := opsAt Tryz.f47 [1, 0, 0, 1, 1, 0]
noncomputable def key_4 : Array Oper := opsAt Tryz.f47 [1, 0, 0, 1, 1, 1, 0, 0]
noncomputable def key_5 : Array Oper := opsAt Tryz.f47 [1, 1, 0]
theorem key_body : Tryz.f47.body = some (.seq (.region 0 key_0 false) (.seq (.block 0 (.seq (.region 1 key_1 false) (.cond (.tmp 6) (.seq (.region 2 key_2 false) .ret) (.seq (.region 3 key_3 false) (.cond (.tmp 10) (.seq (.region 4 key_4 false) .ret) .skip))))) (.seq (.region 5 key_5 false) .ret))) := by kernel_rfl
def KeyR (s : St) (v : Value) (s' : St) : Prop := Fm Nil0 s s' ∧ ∃ (str : ByteArray) (e : Int), v = .tuple #[.string str, .int .i64 e] ∧ str.data.toList.length ≤ 100
theorem isU8_5 : isU8 (tyT.get 5) = true := by kernel_rfl
theorem ro2 : roU32 hSha (some (.cells g2 .ro)) = true := by kernel_rfl
theorem ro4 : roU32 kSha (some (.cells g4 .ro)) = true := by kernel_rfl
theorem bs6 (s : St) : buildSliceA s 6 [(0, .int .u8 100), (1, .int .u8 101), (2, .int .u8 118), (3, .int .u8 105), (4, .int .u8 99), (5, .int .u8 101)] (tyT.get 5) = some (.val (.slice (some ⟨s.next, 0, none⟩) 6 6), s.alloc (.cells (u8s [100, 101, 118, 105, 99, 101]) .exact)) := by
  obtain ⟨ti, t5, d5, z5, zz⟩ : ∃ ti, tyT.get 5 = some ti ∧ ti.d = .int .u8 ∧ ti.size = 1 ∧ ti.zero.cells.toList = [.int .u8 0] := tyZ (by kernel_rfl)
  rw [t5]
  simp only [buildSliceA, z5, zz]
  rfl
theorem bs2 (s : St) (x y : Int) : buildSliceA s 2 [(0, .int .u8 x), (1, .int .u8 y)] (tyT.get 5) = some (.val (.slice (some ⟨s.next, 0, none⟩) 2 2), s.alloc (.cells (u8s [x, y]) .exact)) := by
  obtain ⟨ti, t5, d5, z5, zz⟩ : ∃ ti, tyT.get 5 = some ti ∧ ti.d = .int .u8 ∧ ti.size = 1 ∧ ti.zero.cells.toList = [.int .u8 0] := tyZ (by kernel_rfl)
  rw [t5]
  simp only [buildSliceA, z5, zz]
  rfl
theorem conv6 (s : St) (a : Nat) (h : s.get a = some (.cells (u8s [100, 101, 118, 105, 99, 101]) .exact)) : convA tyT s (Nat.beq 47 47) (.slice 5) (.slice 5) (.slice (some ⟨a, 0, none⟩) 6 6) = some (.val (.slice (some ⟨s.next, 0, none⟩) 6 (cap0 + 1)), (s.upd a .dead).alloc (.cells (u8s [100, 101, 118, 105, 99, 101]) .grow)) := by
  have h1 : Nat.beq 47 47 = true := rfl
  unfold convA
  simp only [h1, isU8_5, Bool.and_self, cond_true]
  rw [h]
  rfl
theorem mac_eq (s : St) (k : ByteArray) (b o n c : Nat) (ns : List Nat) (hB : BytesAt s b o (nI ns)) (hn : n = ns.length) (hb : ∀ x ∈ ns, x < 256) (hk : k.data.toList.length ≤ 100000000000) (hl : ns.length ≤ 100000000000) (h2 : s.get 2 = some (.cells g2 .ro)) (h4 : s.get 4 = some (.cells g4 .ro)) :
    nMacB [.string k, .slice (some ⟨b, o, none⟩) n c] s = some (.slice (some ⟨s.next, 0, none⟩) 32 32, s.alloc (.cells (bytesN (hmacB (strN k) ns)) .exact)) := by
  have e1 : Nat.ble (strN k).length 100000000000 = true := Nat.ble_eq_true_of_le (by simpa [strN] using hk)
  have e2 : Nat.ble ns.length 100000000000 = true := Nat.ble_eq_true_of_le hl
  unfold nMacB
  simp only [srcN_of hB hn hb, e1, e2, h2, h4, ro2, ro4, Bool.and_self, cond_true]
theorem toS (s : St) (a : Nat) (l : List Nat) (hl : l.length = 32) (h : s.get a = some (.cells (bytesN l) .exact)) : ∃ str : ByteArray, str.data.toList.length = 32 ∧ convA tyT s (Nat.beq 47 9) (.slice 5) .string (.slice (some ⟨a, 0, none⟩) 32 32) = some (.val (.string str), s) := by
  obtain ⟨r, h1, h2⟩ := strOf_bytes l
  refine ⟨⟨r.toArray⟩, by simp [h2, hl], ?_⟩
  have hc : cellsAt s ⟨a, 0, none⟩ 32 = some (bytesN l) := by
    have := take_all (bytesN l)
    rw [show (bytesN l).length = 32 from by simp [bytesN, hl]] at this
    simp only [cellsAt, h, cellsOf, dropX_eq, List.drop_zero, this]
  unfold convA
  simp only [isU8_5, cond_true, hc, toStr, h1]
theorem key_C (s : St) (hok : s.Ok) (hG : Gl s) (k : ByteArray) (n : Int) (hk : k.data.toList.length ≤ 100000000000) : CP tbA 47 [.string k, .int .i64 n] s (KeyR s) := by
  refine CP.of rfl (by kernel_rfl) key_body (Nat.le_of_ble_eq_true rfl) ?_
  have e0 : tmA (argsTr [.string k, .int .i64 n] 0 .nil) 0 = .string k := rfl
  have e1 : tmA (argsTr [.string k, .int .i64 n] 0 .nil) 1 = .int .i64 n := rfl
  generalize argsTr [.string k, .int .i64 n] 0 .nil = t0 at e0 e1 ⊢
  have hret : ∀ (tm : Tr Value) (s2 : St) (str : ByteArray) (e : Int), tmA tm 4 = .string str → tmA tm 5 = .int .i64 e → str.data.toList.length ≤ 100 → Fm Nil0 (bare s) s2 → (AX.ret = AX.normal ∨ AX.ret = AX.ret) ∧ (⟨tm, [], false, 47⟩ : AA).df = [] ∧ ∃ vs, resA tbA.ty s2 tm Tryz.f47.results.toList = some vs ∧ KeyR s (tup vs) (keepMods s s2) := fun tm s2 str e h4 h5 hl hm => by
    refine ⟨.inr rfl, rfl, [.string str, .int .i64 e], ?_, Fm.keep hok hm, str, e, rfl, hl⟩
    · rw [show Tryz.f47.results.toList = [.tmp 4, .tmp 5] from rfl, res2, h4, h5]
  have hm0 : Fm Nil0 (bare s) (bare s) := Fm.refl (s := bare s) hok
  refine W.seq (W.region ?_)
  iterate 2 refine WR.val rfl (by simp only [push_cast, tbA_ty, Nat.reduceEqDiff, ↓reduceIte]; rfl) ?_
  refine WR.nil (W.seq (W.block (W.seq (W.region ?_))))
  refine WR.val rfl (by simp only [push_cast, tbA_ty, Nat.reduceEqDiff, ↓reduceIte, e0]; rfl) ?_
  refine WR.call rfl (by simp only [push_cast, tbA_ty, Nat.reduceEqDiff, ↓reduceIte]; rfl) (kmay_C s k) ?_
  rintro _ _ ⟨rfl, rfl⟩
  refine WR.val rfl (by simp only [push_cast, tbA_ty, Nat.reduceEqDiff, ↓reduceIte]; rfl) ?_
  refine WR.val rfl (by simp only [push_cast, tbA_ty, Nat.reduceEqDiff, ↓reduceIte]; rfl) (WR.nil ?_)
  refine W.cond (b := !decide ((k.data.toList.length : Int) ≤ 200)) (by simp only [push_cast, tbA_ty, Nat.reduceEqDiff, ↓reduceIte]) (fun hb => W.seq (W.region ?_)) (fun hb => W.seq (W.region ?_))
  · iterate 2 refine WR.val rfl (by simp only [push_cast, tbA_ty, Nat.reduceEqDiff, ↓reduceIte]; rfl) ?_
    refine WR.nil (W.ret (hret _ _ ⟨#[]⟩ 2 (by simp only [push_cast, tbA_ty, Nat.reduceEqDiff, ↓reduceIte]) (by simp only [push_cast, tbA_ty, Nat.reduceEqDiff, ↓reduceIte]) (by simp) hm0))
  iterate 2 refine WR.val rfl (by simp only [push_cast, tbA_ty, Nat.reduceEqDiff, ↓reduceIte, e1]; rfl) ?_
  refine WR.val rfl (by simp only [push_cast, tbA_ty, Nat.reduceEqDiff, ↓reduceIte]; rfl) ?_
  have hrest : ∀ tm : Tr Value, tmA tm 0 = .string k → tmA tm 1 = .int .i64 n → W tbA (.seq (.region 5 key_5 false) .ret) ⟨tm, [], false, 47⟩ (bare s) (fun x a1 s1 => (x = .normal ∨ x = .ret) ∧ a1.df = [] ∧ ∃ vs, resA tbA.ty s1 a1.tm Tryz.f47.results.toList = some vs ∧ KeyR s (tup vs) (keepMods s s1)) := fun tm g0 g1' => by
    refine W.seq (W.region ?_)
    refine WR.val rfl (by simp only [push_cast, tbA_ty, Nat.reduceEqDiff, ↓reduceIte, g0]; rfl) ?_
    refine WR.val rfl (by simp only [push_cast, tbA_ty, Nat.reduceEqDiff, ↓reduceIte, elem47, evP_cons, evP_nil, List.toList_toArray]; exact bs6 _) ?_
    have hF1 : Fm Nil0 (bare s) ((bare s).alloc (.cells (u8s [100, 101, 118, 105, 99, 101]) .exact)) := (Fm.refl (A := Nil0) (s := bare s) hok).alloc _
    refine WR.val rfl (by simp only [push_cast, tbA_ty, Nat.reduceEqDiff, ↓reduceIte]; exact conv6 _ _ (St.get_alloc_self _ _)) ?_
    obtain ⟨s3, hs3⟩ : ∃ s3, s3 = (((bare s).alloc (.cells (u8s [100, 101, 118, 105, 99, 101]) .exact)).upd s.next .dead).alloc (.cells (u8s [100, 101, 118, 105, 99, 101]) .grow) := ⟨_, rfl⟩
    have hF3 : Fm Nil0 (bare s) s3 := by rw [hs3]; exact (hF1.upd .dead (.inr (Nat.le_refl _)) (by show s.next < s.next + 1; omega)).alloc _
    have hB3 : BB (bare s).next s3 (.slice (some ⟨s.next + 1, 0, none⟩) 6 (cap0 + 1)) [100, 101, 118, 105, 99, 101] := by
      rw [hs3]; exact .at (s.next + 1) [100, 101, 118, 105, 99, 101] (Nat.le_succ s.next) (St.get_alloc_self _ _)
    obtain ⟨v3, hv3⟩ : ∃ v3, v3 = Value.slice (some ⟨s.next + 1, 0, none⟩) 6 (cap0 + 1) := ⟨_, rfl⟩
    change WR tbA _ _ _ ((((bare s).alloc (.cells (u8s [100, 101, 118, 105, 99, 101]) .exact)).upd s.next .dead).alloc (.cells (u8s [100, 101, 118, 105, 99, 101]) .grow)) _
    rw [← hs3]
    change WR tbA _ _ (AA.put _ _ (Value.slice (some ⟨s.next + 1, 0, none⟩) 6 (cap0 + 1))) _ _
    rw [← hv3] at hB3 ⊢
    clear hv3 hs3
    refine WR.val rfl (by simp only [push_cast, tbA_ty, Nat.reduceEqDiff, ↓reduceIte, g1']; rfl) ?_
    refine WR.val rfl (by simp only [push_cast, tbA_ty, Nat.reduceEqDiff, ↓reduceIte]; rw [bin_shr _ _ _ _ _ _ _ _ _ rfl]; rfl) ?_
    refine WR.val rfl (by simp only [push_cast, tbA_ty, Nat.reduceEqDiff, ↓reduceIte]; rfl) ?_
    refine WR.val rfl (by simp only [push_cast, tbA_ty, Nat.reduceEqDiff, ↓reduceIte, g1']; rfl) ?_
    refine WR.val rfl (by simp only [push_cast, tbA_ty, Nat.reduceEqDiff, ↓reduceIte]; rfl) ?_
    obtain ⟨x, hx⟩ : ∃ x : Int, x = shrI .i64 n 8 := ⟨_, rfl⟩
    obtain ⟨mx, hmx, ex⟩ := wrap_u8 (shrI .i64 n 8)
    obtain ⟨my, hmy, ey⟩ := wrap_u8 n
    refine WR.val rfl (by simp only [push_cast, tbA_ty, Nat.reduceEqDiff, ↓reduceIte, elem47, evP_cons, evP_nil, List.toList_toArray, ex, ey]; exact bs2 _ _ _) ?_
    obtain ⟨v5, s5, happ, hF5, hB5, _⟩ := app_bytes (s3.alloc (.cells (u8s [(mx : Int), (my : Int)]) .exact)) v3 (.slice (some ⟨s3.next, 0, none⟩) 2 2) [100, 101, 118, 105, 99, 101] [(mx : Int), (my : Int)] (hF3.alloc _) (hB3.alloc hF3.ok _) (.at s3.next 0 2 [(mx : Int), (my : Int)] (BytesAt.all (St.get_alloc_self _ _))) (by simp)
    refine WR.val rfl (by simp only [push_cast, tbA_ty, Nat.reduceEqDiff, ↓reduceIte]; exact happ) ?_
    obtain ⟨b5, c5, rfl, hb5, hg5⟩ : ∃ b c, v5 = .slice (some ⟨b, 0, none⟩) 8 c ∧ s.next ≤ b ∧ s5.get b = some (.cells (u8s [100, 101, 118, 105, 99, 101, (mx : Int), (my : Int)]) .grow) := by
      cases hB5 with
      | «at» b l hb hg => exact ⟨b, _, rfl, hb, hg⟩
    obtain ⟨_, _, q2, _, q4, _, _⟩ := hG.get
    have hm5 := mac_eq s5 k b5 0 8 c5 [100, 101, 118, 105, 99, 101, mx, my] (BytesAt.all hg5) rfl (by simp; omega) hk (by simp) (hF5.get (s0 := bare s) q2 hok) (hF5.get (s0 := bare s) q4 hok)
    refine WR.call rfl (by simp only [push_cast, tbA_ty, Nat.reduceEqDiff, ↓reduceIte]; rfl) (CP.nat (by rfl) hm5) ?_
    rintro _ s6 ⟨rfl, rfl⟩
    obtain ⟨str, hsl, hst⟩ := toS (s5.alloc (.cells (bytesN (hmacB (strN k) [100, 101, 118, 105, 99, 101, mx, my])) .exact)) s5.next (hmacB (strN k) [100, 101, 118, 105, 99, 101, mx, my]) (shaB_len _) (St.get_alloc_self _ _)
    refine WR.val rfl (by simp only [push_cast, tbA_ty, Nat.reduceEqDiff, ↓reduceIte]; exact hst) ?_
    iterate 2 refine WR.val rfl (by simp only [push_cast, tbA_ty, Nat.reduceEqDiff, ↓reduceIte]; rfl) ?_
    refine WR.nil (W.ret (hret _ _ str 0 (by simp only [push_cast, tbA_ty, Nat.reduceEqDiff, ↓reduceIte]) (by simp only [push_cast, tbA_ty, Nat.reduceEqDiff, ↓reduceIte]) (by omega) (hF5.alloc _)))
  by_cases hc1 : n < 0
  · have hd1 : decide (n < 0) = true := decide_eq_true hc1
    iterate 2 refine WR.passG (d := 13) (b := true) rfl (by rfl) (by simp only [push_cast, tbA_ty, Nat.reduceEqDiff, ↓reduceIte, hd1]) rfl ?_
    refine WR.val rfl (by simp only [push_cast, tbA_ty, Nat.reduceEqDiff, ↓reduceIte, hd1]; rfl) ?_
    refine WR.val rfl (by simp only [push_cast, tbA_ty, Nat.reduceEqDiff, ↓reduceIte]; rfl) (WR.nil ?_)
    refine W.cond (b := true) (by simp only [push_cast, tbA_ty, Nat.reduceEqDiff, ↓reduceIte]) (fun _ => W.seq (W.region ?_)) (fun h => by cases h)
    iterate 2 refine WR.val rfl (by simp only [push_cast, tbA_ty, Nat.reduceEqDiff, ↓reduceIte]; rfl) ?_
    refine WR.nil (W.ret (hret _ _ ⟨#[]⟩ 1 (by simp only [push_cast, tbA_ty, Nat.reduceEqDiff, ↓reduceIte]) (by simp only [push_cast, tbA_ty, Nat.reduceEqDiff, ↓reduceIte]) (by simp) hm0))
  have hd1 : decide (n < 0) = false := decide_eq_false hc1
  refine WR.valG (d := 13) (b := false) rfl (by rfl) (by simp only [push_cast, tbA_ty, Nat.reduceEqDiff, ↓reduceIte, hd1]) rfl (by simp only [push_cast, tbA_ty, Nat.reduceEqDiff, ↓reduceIte, e1]; rfl) ?_
  refine WR.valG (d := 13) (b := false) rfl (by rfl) (by simp only [push_cast, tbA_ty, Nat.reduceEqDiff, ↓reduceIte, hd1]) rfl (by simp only [push_cast, tbA_ty, Nat.reduceEqDiff, ↓reduceIte]; rfl) ?_
  refine WR.val rfl (by simp only [push_cast, tbA_ty, Nat.reduceEqDiff, ↓reduceIte, hd1]; rfl) ?_
  refine WR.val rfl (by simp only [push_cast, tbA_ty, Nat.reduceEqDiff, ↓reduceIte]; rfl) (WR.nil ?_)
  refine W.cond (b := decide (n > 65535)) (by simp only [push_cast, tbA_ty, Nat.reduceEqDiff, ↓reduceIte]) (fun _ => W.seq (W.region ?_)) (fun h => W.skip ?_)
  · iterate 2 refine WR.val rfl (by simp only [push_cast, tbA_ty, Nat.reduceEqDiff, ↓reduceIte]; rfl) ?_
    refine WR.nil (W.ret (hret _ _ ⟨#[]⟩ 1 (by simp only [push_cast, tbA_ty, Nat.reduceEqDiff, ↓reduceIte]) (by simp only [push_cast, tbA_ty, Nat.reduceEqDiff, ↓reduceIte]) (by simp) hm0))
  · refine hrest _ ?_ ?_
    · simp only [push_cast, tbA_ty, Nat.reduceEqDiff, ↓reduceIte, e0]
    · simp only [push_cast, tbA_ty, Nat.reduceEqDiff, ↓reduceIte, e1]
noncomputable def sec_0 : Array Oper := opsAt Tryz.f21 [0]
noncomputable def sec_1 : Array Oper := opsAt Tryz.f21 [1, 0]
noncomputable def sec_2 : Array Oper := opsAt Tryz.f21 [1, 1, 0, 0]
noncomputable def sec_3 : Array Oper := opsAt Tryz.f21 [1, 1, 0, 1, 0, 0]
noncomputable def sec_4 : Array Oper := opsAt Tryz.f21 [1, 1, 1, 0]
theorem sec_body : Tryz.f21.body = some (.seq (.region 0 sec_0 false) (.seq (.region 1 sec_1 false) (.seq (.seq (.region 2 sec_2 false) (.cond (.tmp 15) (.seq (.region 3 sec_3 false) .ret) .skip)) (.seq (.region 4 sec_4 false) .ret)))) := by kernel_rfl
theorem Gl.fm {s s' : St} {A : Nat → Prop} (hG : Gl s) (hok : s.Ok) (h : Fm A s s') (hA : ∀ i, A i → ∀ o, s.get i = some o → o.writable = true) : Gl s' := fun i o hi => by
  have := hG i o hi
  rw [h.old i (hok _ (hdom_of this)) (fun ha => by have h1 := hA i ha o this; rw [s0_ro i o hi] at h1; cases h1), this]
theorem sec_C (s : St) (hok : s.Ok) (hG : Gl s) (k : ByteArray) (n : Int) (hk : k.data.toList.length ≤ 100000000000) : CP tbA 21 [.string k, .int .i64 n] s (KeyR s) := by
  refine CP.of rfl (by kernel_rfl) sec_body (Nat.le_of_ble_eq_true rfl) ?_
  have e0 : tmA (argsTr [.string k, .int .i64 n] 0 .nil) 0 = .string k := rfl
  have e1 : tmA (argsTr [.string k, .int .i64 n] 0 .nil) 1 = .int .i64 n := rfl
  generalize argsTr [.string k, .int .i64 n] 0 .nil = t0 at e0 e1 ⊢
  have hret : ∀ (tm : Tr Value) (s2 : St) (str : ByteArray) (e : Int), tmA tm 4 = .string str → tmA tm 5 = .int .i64 e → str.data.toList.length ≤ 100 → Fm Nil0 (bare s) s2 → (AX.ret = AX.normal ∨ AX.ret = AX.ret) ∧ (⟨tm, [], false, 21⟩ : AA).df = [] ∧ ∃ vs, resA tbA.ty s2 tm Tryz.f21.results.toList = some vs ∧ KeyR s (tup vs) (keepMods s s2) := fun tm s2 str e h4 h5 hl hm => by
    refine ⟨.inr rfl, rfl, [.string str, .int .i64 e], ?_, Fm.keep hok hm, str, e, rfl, hl⟩
    rw [show Tryz.f21.results.toList = [.tmp 4, .tmp 5] from rfl, res2, h4, h5]
  refine W.seq (W.region ?_)
  iterate 2 refine WR.val rfl (by simp only [push_cast, tbA_ty, Nat.reduceEqDiff, ↓reduceIte]; rfl) ?_
  refine WR.nil (W.seq (W.region ?_))
  iterate 2 refine WR.val rfl (by simp only [push_cast, tbA_ty, Nat.reduceEqDiff, ↓reduceIte, e0, e1]; rfl) ?_
  refine WR.call rfl (by simp only [push_cast, tbA_ty, Nat.reduceEqDiff, ↓reduceIte]; rfl) (key_C (bare s) hok hG k n hk) ?_
  rintro _ s1 ⟨hF1, str, e, rfl, hsl⟩
  refine WR.val rfl (by simp only [push_cast, tbA_ty, Nat.reduceEqDiff, ↓reduceIte]; rfl) ?_
  iterate 4 refine WR.val rfl (by simp only [push_cast, tbA_ty, Nat.reduceEqDiff, ↓reduceIte]; rfl) ?_
  refine WR.nil (W.seq (W.seq (W.region ?_)))
  iterate 2 refine WR.val rfl (by simp only [push_cast, tbA_ty, Nat.reduceEqDiff, ↓reduceIte]; rfl) ?_
  refine WR.nil (W.cond (b := !decide (e = 0)) (by simp only [push_cast, tbA_ty, Nat.reduceEqDiff, ↓reduceIte]) (fun hb => W.seq (W.region ?_)) (fun hb => W.skip ?_))
  · iterate 3 refine WR.val rfl (by simp only [push_cast, tbA_ty, Nat.reduceEqDiff, ↓reduceIte]; rfl) ?_
    refine WR.nil (W.ret (hret _ _ ⟨#[]⟩ e (by simp only [push_cast, tbA_ty, Nat.reduceEqDiff, ↓reduceIte]) (by simp only [push_cast, tbA_ty, Nat.reduceEqDiff, ↓reduceIte]) (by simp) hF1))
  refine W.seq (W.region ?_)
  refine WR.val rfl (by simp only [push_cast, tbA_ty, Nat.reduceEqDiff, ↓reduceIte]; rfl) ?_
  have hG1 : Gl s1 := Gl.fm (s := bare s) hG hok hF1 (fun i h => h.elim)
  refine WR.call rfl (by simp only [push_cast, tbA_ty, Nat.reduceEqDiff, ↓reduceIte]; rfl) (key_C s1 hF1.ok hG1 str 0 (by omega)) ?_
  rintro _ s2 ⟨hF2, str2, e2, rfl, hsl2⟩
  iterate 2 refine WR.val rfl (by simp only [push_cast, tbA_ty, Nat.reduceEqDiff, ↓reduceIte]; rfl) ?_
  iterate 2 refine WR.val rfl (by simp only [push_cast, tbA_ty, Nat.reduceEqDiff, ↓reduceIte]; rfl) ?_
  refine WR.nil (W.ret (hret _ _ str2 e2 (by simp only [push_cast, tbA_ty, Nat.reduceEqDiff, ↓reduceIte]) (by simp only [push_cast, tbA_ty, Nat.reduceEqDiff, ↓reduceIte]) hsl2 (hF1.trans hF2 fun i h => h.elim)))
end Go.Proofs.Ae
namespace Go.Proofs.Ae
open Go.Proofs
def offC (k : ByteArray) (st : Nat) (hubs : Value) : List Value := [.string k, .pointer (some ⟨st, 0, none⟩), hubs, .bool false]
noncomputable def tpI : List Nat := [0, 1, 2, 3, 4, 6, 7, 8, 9]
noncomputable def tpO (k : ByteArray) (m cap : Nat) : List AObj := glO ++ [.cells (offC k 9 (.slice (some ⟨12, 0, none⟩) m cap)) .exact, .cells (storeC 10 11) .exact]
noncomputable def tpT (k : ByteArray) (m cap : Nat) : St := litSt tpI (tpO k m cap) [10, 11, 12] 13
theorem taps_run (k : ByteArray) (m cap : Nat) : runOut [] [] (run tbA 100000 10 [.pointer (some ⟨8, 0, none⟩)] (tpT k m cap)) = some (.slice none 0 0, []) := by kernel_rfl
theorem tpT_part (k : ByteArray) (m cap : Nat) : Part tbA (tpT k m cap) := lit_part (tms := []) (gls := [0, 1, 2, 3, 4, 6, 7]) (by kernel_rfl) (fun i hi => glF_mem hi)
def tpR (o st d l h : Nat) (i : Nat) : Nat := if i = 8 then o else if i = 9 then st else if i = 10 then d else if i = 11 then l else if i = 12 then h else i
theorem tpT_get {k : ByteArray} {m cap i : Nat} {o : AObj} (h : (tpT k m cap).get i = some o) : (∃ j : Nat, [0, 1, 2, 3, 4, 6, 7][j]? = some i ∧ glO[j]? = some o) ∨ (i = 8 ∧ o = .cells (offC k 9 (.slice (some ⟨12, 0, none⟩) m cap)) .exact) ∨ (i = 9 ∧ o = .cells (storeC 10 11) .exact) ∨ (i = 10 ∧ o = .dead) ∨ (i = 11 ∧ o = .dead) ∨ (i = 12 ∧ o = .dead) := by
  rcases lit_get h with ⟨j, h1, h2⟩ | ⟨h1, h2⟩
  · rcases ids_split (gl := [0, 1, 2, 3, 4, 6, 7]) (l := [8, 9]) (ol := glO) rfl h1 h2 with ⟨k1, k2⟩ | ⟨k, k1, k2⟩
    · exact .inl ⟨j, k1, k2⟩
    · refine .inr ?_
      match k, k1, k2 with
      | 0, k1, k2 => cases k1; cases k2; simp
      | 1, k1, k2 => cases k1; cases k2; simp
      | k + 2, k1, k2 => simp at k1
  · simp only [List.mem_cons, List.not_mem_nil, or_false] at h1
    rcases h1 with rfl | rfl | rfl <;> simp [h2]
theorem tpR_gl {o st d l h i : Nat} (hi : i ≤ 7) : tpR o st d l h i = i := by
  unfold tpR
  rw [if_neg (by omega), if_neg (by omega), if_neg (by omega), if_neg (by omega), if_neg (by omega)]
set_option maxHeartbeats 4000000 in
theorem taps_C (s : St) (hok : s.Ok) (hG : Gl s) (k : ByteArray) (m cap o st d l h : Nat) (ho : s.get o = some (.cells (offC k st (.slice (some ⟨h, 0, none⟩) m cap)) .exact)) (hst : s.get st = some (.cells (storeC d l) .exact))
    (hd : hdom s.get d) (hl : hdom s.get l) (hh : hdom s.get h) (hg7 : 7 < d ∧ 7 < l ∧ 7 < h) (hne : o ≠ d ∧ o ≠ l ∧ o ≠ h ∧ st ≠ d ∧ st ≠ l ∧ st ≠ h ∧ d ≠ l ∧ d ≠ h ∧ l ≠ h) : CSem Tryz.prog tbA 10 [.pointer (some ⟨o, 0, none⟩)] s (.slice none 0 0) s := by
  obtain ⟨t', hrun, hobj, hmod⟩ := runOut_spec (taps_run k m cap)
  obtain ⟨q0, q1, q2, q3, q4, q6, q7⟩ := hG.get
  have n0 : ∀ x o, s.get x = some o → o.writable = true → x ≠ 0 ∧ x ≠ 1 ∧ x ≠ 2 ∧ x ≠ 3 ∧ x ≠ 4 ∧ x ≠ 6 ∧ x ≠ 7 := fun x o hx hw => by
    refine ⟨?_, ?_, ?_, ?_, ?_, ?_, ?_⟩ <;> (intro e; subst e; first | (rw [q0] at hx; cases hx; cases hw) | (rw [q1] at hx; cases hx; cases hw) | (rw [q2] at hx; cases hx; cases hw) | (rw [q3] at hx; cases hx; cases hw) | (rw [q4] at hx; cases hx; cases hw) | (rw [q6] at hx; cases hx; cases hw) | (rw [q7] at hx; cases hx; cases hw))
  obtain ⟨o0, o1, o2, o3, o4, o6, o7⟩ := n0 o _ ho rfl
  obtain ⟨s0', s1, s2, s3, s4, s6, s7⟩ := n0 st _ hst rfl
  have hos : o ≠ st := fun e => by
    rw [e, hst] at ho
    have := congrArg (fun x => match x with | some (AObj.cells c _) => c.length | _ => 0) ho
    simp [storeC, offC] at this
  obtain ⟨e1, e2, e3, e4, e5, e6, e7, e8, e9⟩ := hne
  obtain ⟨d7, l7, h7⟩ := hg7
  have hR : ∀ i, hdom (tpT k m cap).get i → (i ≤ 7 ∧ i ≠ 5 ∧ tpR o st d l h i = i) ∨ (i = 8 ∧ tpR o st d l h i = o) ∨ (i = 9 ∧ tpR o st d l h i = st) ∨ (i = 10 ∧ tpR o st d l h i = d) ∨ (i = 11 ∧ tpR o st d l h i = l) ∨ (i = 12 ∧ tpR o st d l h i = h) := fun i hi => by
    obtain ⟨ob, hob⟩ := get_of_hdom hi
    rcases tpT_get hob with ⟨j, h1, h2⟩ | ⟨rfl, _⟩ | ⟨rfl, _⟩ | ⟨rfl, _⟩ | ⟨rfl, _⟩ | ⟨rfl, _⟩
    · obtain ⟨k1, _⟩ := gl_copy hG (ρ := fun i => i) (fun i hi => rfl) h1 h2
      refine .inl ⟨k1, ?_, tpR_gl k1⟩
      intro e
      subst e
      have : 5 ∈ [0, 1, 2, 3, 4, 6, 7] := List.mem_of_getElem? h1
      simp at this
    all_goals simp [tpR]
  have hfin := CSem.subR (run_ok tbA_ok tbA_nat hrun) (tpT_part k m cap) (s := s) (ρ := tpR o st d l h) (fun i ob hi => ?_) (fun i j hi hj e => ?_) (fun i ob hi => ?_) (fun i hi => tpR_gl (glF_le hi)) (fun y hy => ?_) (by simp [inD]) (fun i hi => by have := hmod i hi; cases this)
  · have e1 : [Value.pointer (some ⟨8, 0, none⟩)].map (ren (tpR o st d l h)) = [.pointer (some ⟨o, 0, none⟩)] := by simp [ren, tpR]
    rw [e1] at hfin
    exact hfin
  · rcases tpT_get hi with ⟨j, h1, h2⟩ | ⟨rfl, rfl⟩ | ⟨rfl, rfl⟩ | ⟨rfl, rfl⟩ | ⟨rfl, rfl⟩ | ⟨rfl, rfl⟩
    · obtain ⟨k1, _, _, k2, k3, _⟩ := gl_copy hG (ρ := tpR o st d l h) (fun i hi => tpR_gl hi) h1 h2
      rw [tpR_gl k1, k3]; exact .inl k2
    · have : (AObj.cells (offC k 9 (.slice (some ⟨12, 0, none⟩) m cap)) .exact).ren (tpR o st d l h) = .cells (offC k st (.slice (some ⟨h, 0, none⟩) m cap)) .exact := by simp [AObj.ren, offC, ren, tpR]
      rw [this]; exact .inl ho
    · have : (AObj.cells (storeC 10 11) .exact).ren (tpR o st d l h) = .cells (storeC d l) .exact := by simp [AObj.ren, storeC, ren, tpR]
      rw [this]; exact .inl hst
    · exact .inr ⟨rfl, hd⟩
    · exact .inr ⟨rfl, hl⟩
    · exact .inr ⟨rfl, hh⟩
  · have h1 := hR i hi
    have h2 := hR j hj
    clear hR hi hj
    rcases h1 with h1 | h1 | h1 | h1 | h1 | h1 <;> rcases h2 with h2 | h2 | h2 | h2 | h2 | h2 <;> omega
  · rcases tpT_get hi with ⟨j, h1, h2⟩ | ⟨rfl, rfl⟩ | ⟨rfl, rfl⟩ | ⟨rfl, rfl⟩ | ⟨rfl, rfl⟩ | ⟨rfl, rfl⟩
    · exact (gl_copy hG (ρ := fun i => i) (fun i hi => rfl) h1 h2).2.1
    all_goals rfl
  · simp only [List.mem_singleton] at hy
    subst hy
    simp only [inD]
    have := litT_dom tpI (tpO k m cap) (deadT [10, 11, 12] .nil) 8 rfl (.inl (by simp [tpI]))
    exact this
end Go.Proofs.Ae
namespace Go.Proofs.Ae
open Go.Proofs
variable {tb : Tb} {P : Program}
open Classical in
noncomputable def nRel2 (R : List Value → St → Value → St → Prop) : NatF := fun args s => if h : ∃ p : Value × St, R args s p.1 p.2 then some (Classical.choose h) else none
theorem nRel2_ok {R : List Value → St → Value → St → Prop} {f : FuncId} (h : ∀ args s v s', R args s v s' → CSem P tb f args s v s') : ∀ args s v s', nRel2 R args s = some (v, s') → CSem P tb f args s v s' := by
  intro args s v s' hn
  unfold nRel2 at hn
  split at hn
  · rename_i hx
    have hs := Classical.choose_spec hx
    cases hn' : Classical.choose hx with
    | mk v1 s1 =>
      rw [hn'] at hn hs
      cases hn
      exact h _ _ _ _ hs
  · cases hn
theorem CP.rel {R : List Value → St → Value → St → Prop} {f : FuncId} {args : List Value} {s : St} (hn : tb.nat f = some (nRel2 R)) {v : Value} {s' : St} (h : R args s v s') : CP tb f args s (fun v s' => R args s v s') := by
  have hx : ∃ p : Value × St, R args s p.1 p.2 := ⟨(v, s'), h⟩
  have hs := Classical.choose_spec hx
  cases hc : Classical.choose hx with
  | mk v1 s1 =>
    rw [hc] at hs
    have he : nRel2 R args s = some (v1, s1) := by unfold nRel2; rw [dif_pos hx, hc]
    obtain ⟨v2, s2, h1, rfl, rfl⟩ := CP.nat hn he
    exact ⟨v2, s2, h1, hs⟩
theorem NatOk.addc {tb0 : Tb} {f : FuncId} {nat : NatF} (HN : NatOk P tb) (ht : tb.ty = tb0.ty) (hg : tb.gl = tb0.gl) (h : ∀ args s v s', nat args s = some (v, s') → CSem P tb0 f args s v s') : NatOk P (tb.add f nat) :=
  NatOk.add HN fun args s v s' hs => CSem.conv (tb := tb0) (tb' := tb) ht hg (h args s v s' hs)
def RAw (args : List Value) (s : St) (v : Value) (s' : St) : Prop := args = [] ∧ Gl s ∧ v = .bool true ∧ s' = s
def RMay (args : List Value) (s : St) (v : Value) (s' : St) : Prop := ∃ k hv l, args = [.agg #[.string k, hv]] ∧ HV s hv l ∧ l.length < 9223372036854775808 ∧ v = .bool (mayV k l) ∧ s' = s
def RSec (args : List Value) (s : St) (v : Value) (s' : St) : Prop := ∃ str e, v = .tuple #[.string str, .int .i64 e] ∧ s' = s ∧ CSem Tryz.prog tbA 21 args s v s
def RSo (args : List Value) (s : St) (v : Value) (s' : St) : Prop := ∃ (n a b c d : Nat), args = [.pointer (some ⟨d, 0, none⟩)] ∧ Gl s ∧ n ≤ 60 ∧ s.get a = some (.map []) ∧ s.get b = some (.map []) ∧ a ≠ b ∧ s.get c = some (.cells (boxC n a b) .exact) ∧ s.get d = some (.cells (diskC c n) .exact) ∧
  ((n < 4 ∧ v = .tuple #[.pointer none, .iface 36 (.int .i64 1)] ∧ s' = s) ∨ (4 ≤ n ∧ v = .tuple #[.pointer (some ⟨s.next + 2, 0, none⟩), .nilIface] ∧ s' = soS s n a b c d))
def RTp (args : List Value) (s : St) (v : Value) (s' : St) : Prop := v = .slice none 0 0 ∧ s' = s ∧ CSem Tryz.prog tbA 10 args s v s
theorem HV.bare {s : St} {v : Value} {l : List Int} (k : HV s v l) : HV (bare s) v l := k.mono fun _ _ => rfl
theorem RAw_ok : ∀ args s v s', RAw args s v s' → CSem Tryz.prog tbA 4 args s v s' := by
  rintro args s v s' ⟨rfl, hG, rfl, rfl⟩
  exact awake_C s' hG
theorem RMay_ok : ∀ args s v s', RMay args s v s' → CSem Tryz.prog tbA 18 args s v s' := by
  rintro args s v s' ⟨k, hv, l, rfl, hH, hl, rfl, rfl⟩
  refine CSem.ofOk (is_enters 18 Tryz.func18 (by kernel_rfl) (by kernel_rfl)) fun hok => ?_
  exact CSem.native tbA_ok tbA_nat (by simp [inD]) (may_C s' hok k hv l hH hl)
theorem RRMay_ok : ∀ args s v s', RMay args s v s' → CSem Tryz.prog tbA 8 args s v s' := by
  rintro args s v s' ⟨k, hv, l, rfl, hH, hl, rfl, rfl⟩
  refine CSem.ofOk (is_enters 8 Tryz.func8 (by kernel_rfl) (by kernel_rfl)) fun hok => ?_
  exact CSem.native tbA_ok tbA_nat (by simp [inD]) (rmay_C s' hok k hv l hH hl)
theorem RSec_ok : ∀ args s v s', RSec args s v s' → CSem Tryz.prog tbA 21 args s v s' := by
  rintro args s v s' ⟨str, e, rfl, rfl, h⟩
  exact h
theorem sec_R (s : St) (hok : s.Ok) (hG : Gl s) (k : ByteArray) (n : Int) (hk : k.data.toList.length ≤ 100000000000) : ∃ str e, RSec [.string k, .int .i64 n] s (.tuple #[.string str, .int .i64 e]) s := by
  obtain ⟨v, s1, ⟨m, hr⟩, hF, str, e, rfl, _⟩ := sec_C (bare s) hok hG k n hk
  refine ⟨str, e, str, e, rfl, rfl, CSem.forgetAll (run_ok tbA_ok tbA_nat hr) (by simp [inD]) fun i hi o ho => ?_⟩
  rcases hF.mods i hi with h | h | h
  · cases h
  · exact h.elim
  · have := hok i (hdom_of ho)
    have : s.next ≤ i := h
    omega
theorem RSo_ok : ∀ args s v s', RSo args s v s' → CSem Tryz.prog tbA 19 args s v s' := by
  rintro args s v s' ⟨n, a, b, c, d, rfl, hG, hn, ha, hb, hab, hc, hd, ⟨h4, rfl, rfl⟩ | ⟨h4, rfl, rfl⟩⟩
  · exact CSem.ofOk (is_enters 19 Tryz.func19 (by kernel_rfl) (by kernel_rfl)) fun hok => soE_C n h4 s' hok hG a b c d ha hb hab hc hd
  · obtain ⟨sec, st, h1, h2, hP⟩ := so_all n h4 hn
    exact CSem.ofOk (is_enters 19 Tryz.func19 (by kernel_rfl) (by kernel_rfl)) fun hok => so_C n sec st hP h1 h2 s hok hG a b c d ha hb hab hc hd
theorem RTp_ok : ∀ args s v s', RTp args s v s' → CSem Tryz.prog tbA 10 args s v s' := by
  rintro args s v s' ⟨rfl, rfl, h⟩
  exact h
noncomputable def tbZ : Tb := (((((tbA.add 4 (nRel2 RAw)).add 18 (nRel2 RMay)).add 8 (nRel2 RMay)).add 21 (nRel2 RSec)).add 19 (nRel2 RSo)).add 10 (nRel2 RTp)
theorem tbZ_ok : TbOk Tryz.prog tbZ := tbA_ok.add.add.add.add.add.add
theorem tbZ_nat : NatOk Tryz.prog tbZ :=
  NatOk.addc (tb0 := tbA) (NatOk.addc (tb0 := tbA) (NatOk.addc (tb0 := tbA) (NatOk.addc (tb0 := tbA) (NatOk.addc (tb0 := tbA) (NatOk.addc (tb0 := tbA) tbA_nat rfl rfl (nRel2_ok RAw_ok)) rfl rfl (nRel2_ok RMay_ok)) rfl rfl (nRel2_ok RRMay_ok)) rfl rfl (nRel2_ok RSec_ok)) rfl rfl (nRel2_ok RSo_ok)) rfl rfl (nRel2_ok RTp_ok)
theorem tbZ_ty : tbZ.ty = tyT := rfl
end Go.Proofs.Ae
namespace Go.Proofs.Ae
open Go.Proofs
set_option maxHeartbeats 4000000
noncomputable def bnew_0 : Array Oper := opsAt Tryz.f5 [0]
noncomputable def bnew_1 : Array Oper := opsAt Tryz.f5 [1, 0]
theorem bnew_body : Tryz.f5.body = some (.seq (.region 0 bnew_0 false) (.seq (.region 1 bnew_1 false) .ret)) := by kernel_rfl
noncomputable def bdisk_0 : Array Oper := opsAt Tryz.f7 [0]
noncomputable def bdisk_1 : Array Oper := opsAt Tryz.f7 [1, 0]
theorem bdisk_body : Tryz.f7.body = some (.seq (.region 0 bdisk_0 false) (.seq (.region 1 bdisk_1 true) .ret)) := by kernel_rfl
noncomputable def nrec_0 : Array Oper := opsAt Tryz.f22 [0]
noncomputable def nrec_1 : Array Oper := opsAt Tryz.f22 [1, 0]
theorem nrec_body : Tryz.f22.body = some (.seq (.region 0 nrec_0 false) (.seq (.region 1 nrec_1 false) .ret)) := by kernel_rfl
theorem buildS {T : TypeId} {fs : List (TypeId × Nat)} {z : List Value} (h : (tyT.get T).map (fun ti => (ti.d, ti.zero.cells.toList)) = some (.struct fs, z)) (s : St) (ps : List (Nat × Value)) (r : List Value) (hf : fillA (fieldAt tyT fs) ps z = some r) : buildA tyT s ps (tyT.get T) = some (.val (.agg r.toArray), s) := by
  cases hg : tyT.get T with
  | none => rw [hg] at h; cases h
  | some ti =>
    rw [hg] at h
    simp only [Option.map_some, Option.some.injEq, Prod.mk.injEq] at h
    simp only [buildA, h.1, h.2, hf]
    rfl
theorem b61 (s : St) (n : Int) (a b : Nat) : buildA tyT s [(0, .int .i64 n), (1, .map (some a)), (2, .map (some b))] (tyT.get 61) = some (.val (.agg (boxC n a b).toArray), s) :=
  buildS (T := 61) (fs := [(3, 0), (58, 1), (58, 2), (59, 3), (4, 4), (3, 5), (4, 6), (4, 7)]) (z := [.int .i64 0, .map none, .map none, .slice none 0 0, .bool false, .int .i64 0, .bool false, .bool false]) (by kernel_rfl) s _ _ (by kernel_rfl)
theorem b63 (s : St) (b : Nat) : buildA tyT s [(0, .pointer (some ⟨b, 0, none⟩))] (tyT.get 63) = some (.val (.agg #[.pointer (some ⟨b, 0, none⟩)]), s) :=
  buildS (T := 63) (fs := [(57, 0)]) (z := [.pointer none]) (by kernel_rfl) s _ [.pointer (some ⟨b, 0, none⟩)] (by kernel_rfl)
theorem b78 (s : St) (b : Nat) (n : Int) : buildA tyT s [(0, .pointer (some ⟨b, 0, none⟩)), (1, .int .i64 0), (2, .int .i64 n)] (tyT.get 78) = some (.val (.agg (diskC b n).toArray), s) :=
  buildS (T := 78) (fs := [(57, 0), (3, 1), (3, 2)]) (z := [.pointer none, .int .i64 0, .int .i64 0]) (by kernel_rfl) s _ _ (by kernel_rfl)
theorem max0 (T : Tr TI) (s : St) (n : Nat) : builtinA T s .max [3, 3] [.int .i64 (n : Int), .int .i64 0] = some (.val (.int .i64 (n : Int)), s) := by
  show some (AR.val (.int .i64 (bif Nat.ble (n + 1) 0 then (0 : Int) else (n : Int))), s) = _
  rfl
structure NewR (s : St) (n : Int) (v : Value) (s' : St) : Prop where
  v : v = .pointer (some ⟨s.next + 3, 0, none⟩)
  fm : Fm Nil0 s s'
  next : s'.next = s.next + 4
  a : s'.get s.next = some (.map [])
  b : s'.get (s.next + 1) = some (.map [])
  c : s'.get (s.next + 2) = some (.cells (boxC n s.next (s.next + 1)) .exact)
  h : s'.get (s.next + 3) = some (.cells [.pointer (some ⟨s.next + 2, 0, none⟩)] .exact)
theorem new_Z (s : St) (hok : s.Ok) (n : Nat) : CP tbZ 5 [.int .i64 (n : Int)] s (NewR s n) := by
  refine CP.of rfl (by kernel_rfl) bnew_body (Nat.le_of_ble_eq_true rfl) ?_
  have e0 : tmA (argsTr [.int .i64 (n : Int)] 0 .nil) 0 = .int .i64 (n : Int) := rfl
  generalize argsTr [.int .i64 (n : Int)] 0 .nil = t0 at e0 ⊢
  refine W.seq (W.region ?_)
  refine WR.val rfl (by simp only [push_cast, tbZ_ty, Nat.reduceEqDiff, ↓reduceIte]; rfl) (WR.nil ?_)
  refine W.seq (W.region ?_)
  refine WR.val rfl (by simp only [push_cast, tbZ_ty, Nat.reduceEqDiff, ↓reduceIte, e0]; rfl) ?_
  refine WR.val rfl (by simp only [push_cast, tbZ_ty, Nat.reduceEqDiff, ↓reduceIte]; exact max0 _ _ _) ?_
  iterate 2 refine WR.val rfl (by rfl) ?_
  refine WR.val rfl (by simp only [push_cast, tbZ_ty, Nat.reduceEqDiff, ↓reduceIte, evP_cons, evP_nil, List.toList_toArray]; exact b61 _ _ _ _) ?_
  refine WR.val rfl (by simp only [push_cast, tbZ_ty, Nat.reduceEqDiff, ↓reduceIte, cells_agg]; rfl) ?_
  refine WR.val rfl (by simp only [push_cast, tbZ_ty, Nat.reduceEqDiff, ↓reduceIte, evP_cons, evP_nil, List.toList_toArray]; exact b63 _ _) ?_
  refine WR.val rfl (by simp only [push_cast, tbZ_ty, Nat.reduceEqDiff, ↓reduceIte]; rfl) ?_
  refine WR.val rfl (by simp only [push_cast, tbZ_ty, Nat.reduceEqDiff, ↓reduceIte]; rfl) (WR.nil ?_)
  obtain ⟨s4, hs4⟩ : ∃ s4, s4 = ((((bare s).alloc (.map [])).alloc (.map [])).alloc (.cells (boxC n s.next (s.next + 1)) .exact)).alloc (.cells [.pointer (some ⟨s.next + 2, 0, none⟩)] .exact) := ⟨_, rfl⟩
  have hF : Fm Nil0 (bare s) s4 := by rw [hs4]; exact ((((Fm.refl (A := Nil0) (s := bare s) hok).alloc _).alloc _).alloc _).alloc _
  refine W.ret ⟨.inr rfl, rfl, [.pointer (some ⟨s.next + 3, 0, none⟩)], ?_, rfl, ?_, ?_, ?_, ?_, ?_, ?_⟩
  · rw [show Tryz.f5.results.toList = [.tmp 2] from rfl, res1]
    simp only [push_cast, tbZ_ty, Nat.reduceEqDiff, ↓reduceIte]; rfl
  · have := hF.keep hok; rw [hs4] at this; exact this
  · rfl
  · show (((((bare s).alloc (.map [])).alloc (.map [])).alloc (.cells (boxC n s.next (s.next + 1)) .exact)).alloc (.cells [.pointer (some ⟨s.next + 2, 0, none⟩)] .exact)).get s.next = _
    rw [St.get_alloc_ne _ _ _ (by show s.next ≠ s.next + 3; omega), St.get_alloc_ne _ _ _ (by show s.next ≠ s.next + 2; omega), St.get_alloc_ne _ _ _ (by show s.next ≠ s.next + 1; omega)]
    exact St.get_alloc_self _ _
  · show (((((bare s).alloc (.map [])).alloc (.map [])).alloc (.cells (boxC n s.next (s.next + 1)) .exact)).alloc (.cells [.pointer (some ⟨s.next + 2, 0, none⟩)] .exact)).get (s.next + 1) = _
    rw [St.get_alloc_ne _ _ _ (by show s.next + 1 ≠ s.next + 3; omega), St.get_alloc_ne _ _ _ (by show s.next + 1 ≠ s.next + 2; omega)]
    exact St.get_alloc_self _ _
  · show (((((bare s).alloc (.map [])).alloc (.map [])).alloc (.cells (boxC n s.next (s.next + 1)) .exact)).alloc (.cells [.pointer (some ⟨s.next + 2, 0, none⟩)] .exact)).get (s.next + 2) = _
    rw [St.get_alloc_ne _ _ _ (by show s.next + 2 ≠ s.next + 3; omega)]
    exact St.get_alloc_self _ _
  · exact St.get_alloc_self _ _
structure DiskR (s : St) (c : Nat) (n : Int) (v : Value) (s' : St) : Prop where
  v : v = .pointer (some ⟨s.next, 0, none⟩)
  fm : Fm Nil0 s s'
  next : s'.next = s.next + 1
  d : s'.get s.next = some (.cells (diskC c n) .exact)
  mods : s'.mods = s.mods
theorem f61_0 : fldIs 61 0 0 := ⟨by kernel_rfl, by kernel_rfl⟩
theorem disk_Z (s : St) (hok : s.Ok) (h c a b : Nat) (n : Nat) (hh : s.get h = some (.cells [.pointer (some ⟨c, 0, none⟩)] .exact)) (hc : s.get c = some (.cells (boxC n a b) .exact)) : CP tbZ 7 [.pointer (some ⟨h, 0, none⟩)] s (DiskR s c n) := by
  refine CP.of rfl (by kernel_rfl) bdisk_body (Nat.le_of_ble_eq_true rfl) ?_
  have e0 : tmA (argsTr [.pointer (some ⟨h, 0, none⟩)] 0 .nil) 0 = .pointer (some ⟨h, 0, none⟩) := rfl
  generalize argsTr [.pointer (some ⟨h, 0, none⟩)] 0 .nil = t0 at e0 ⊢
  refine W.seq (W.region ?_)
  refine WR.val rfl (by simp only [push_cast, tbZ_ty, Nat.reduceEqDiff, ↓reduceIte]; rfl) (WR.nil ?_)
  refine W.seq (W.draw ?_)
  refine WD.q rfl rfl (by simp only [push_cast, tbZ_ty, Nat.reduceEqDiff, ↓reduceIte, e0]; rfl) ?_
  refine WD.q rfl rfl (by simp only [push_cast, tbZ_ty, Nat.reduceEqDiff, ↓reduceIte]; rfl) ?_
  refine WD.q rfl rfl (by simp only [push_cast, tbZ_ty, Nat.reduceEqDiff, ↓reduceIte]; exact faT f63_0 _ _) ?_
  refine WD.q rfl rfl (by simp only [push_cast, tbZ_ty, Nat.reduceEqDiff, ↓reduceIte]; exact ldT one57 _ _ _ (.pointer (some ⟨c, 0, none⟩)) (by rw [bare_get, bare_get, hh]; rfl)) ?_
  refine WD.q rfl rfl (by simp only [push_cast, tbZ_ty, Nat.reduceEqDiff, ↓reduceIte, e0]; rfl) ?_
  refine WD.q rfl rfl (by simp only [push_cast, tbZ_ty, Nat.reduceEqDiff, ↓reduceIte]; rfl) ?_
  refine WD.q rfl rfl (by simp only [push_cast, tbZ_ty, Nat.reduceEqDiff, ↓reduceIte]; exact faT f63_0 _ _) ?_
  refine WD.q rfl rfl (by simp only [push_cast, tbZ_ty, Nat.reduceEqDiff, ↓reduceIte]; exact ldT one57 _ _ _ (.pointer (some ⟨c, 0, none⟩)) (by rw [bare_get, bare_get, hh]; rfl)) ?_
  refine WD.q rfl rfl (by simp only [push_cast, tbZ_ty, Nat.reduceEqDiff, ↓reduceIte]; rfl) ?_
  refine WD.q rfl rfl (by simp only [push_cast, tbZ_ty, Nat.reduceEqDiff, ↓reduceIte]; exact faT f61_0 _ _) ?_
  refine WD.q rfl rfl (by simp only [push_cast, tbZ_ty, Nat.reduceEqDiff, ↓reduceIte]; exact ldT one3 _ _ _ (.int .i64 (n : Int)) (by rw [bare_get, bare_get, hc]; rfl)) ?_
  refine WD.q rfl rfl (by simp only [push_cast, tbZ_ty, Nat.reduceEqDiff, ↓reduceIte, evP_cons, evP_nil, List.toList_toArray]; exact b78 _ _ _) ?_
  refine WD.val rfl rfl (by simp only [push_cast, tbZ_ty, Nat.reduceEqDiff, ↓reduceIte, cells_agg]; rfl) rfl (apartB_empty _ _) ?_
  rw [join_alloc]
  refine WD.val rfl rfl (by simp only [push_cast, tbZ_ty, Nat.reduceEqDiff, ↓reduceIte]; rfl) rfl (apartB_empty _ _) (WD.nil ?_)
  rw [join_bare]
  have hF : Fm Nil0 (bare s) ((bare s).alloc (.cells (diskC c n) .exact)) := (Fm.refl (A := Nil0) (s := bare s) hok).alloc _
  refine W.ret ⟨.inr rfl, rfl, [.pointer (some ⟨s.next, 0, none⟩)], ?_, rfl, hF.keep hok, rfl, St.get_alloc_self _ _, rfl⟩
  rw [show Tryz.f7.results.toList = [.tmp 2] from rfl, res1]
  simp only [push_cast, tbZ_ty, Nat.reduceEqDiff, ↓reduceIte]; rfl
theorem rec_Z (s : St) (hok : s.Ok) : CP tbZ 22 [] s (fun v s' => v = .pointer (some ⟨s.next, 0, none⟩) ∧ s' = s.alloc (.cells [.int .i64 0] .exact)) := by
  refine CP.of rfl (by kernel_rfl) nrec_body (Nat.le_of_ble_eq_true rfl) ?_
  refine W.seq (W.region ?_)
  refine WR.val rfl (by simp only [push_cast, tbZ_ty, Nat.reduceEqDiff, ↓reduceIte]; rfl) (WR.nil ?_)
  refine W.seq (W.region ?_)
  refine WR.val rfl (by simp only [push_cast, tbZ_ty, Nat.reduceEqDiff, ↓reduceIte, evP_cons, evP_nil, List.toList_toArray]; exact buildS (T := 125) (fs := [(3, 0)]) (z := [.int .i64 0]) (by kernel_rfl) _ _ [.int .i64 0] (by kernel_rfl)) ?_
  refine WR.val rfl (by simp only [push_cast, tbZ_ty, Nat.reduceEqDiff, ↓reduceIte, cells_agg]; rfl) ?_
  refine WR.val rfl (by simp only [push_cast, tbZ_ty, Nat.reduceEqDiff, ↓reduceIte]; rfl) (WR.nil ?_)
  refine W.ret ⟨.inr rfl, rfl, [.pointer (some ⟨s.next, 0, none⟩)], ?_, rfl, rfl⟩
  rw [show Tryz.f22.results.toList = [.tmp 0] from rfl, res1]
  simp only [push_cast, tbZ_ty, Nat.reduceEqDiff, ↓reduceIte]; rfl
end Go.Proofs.Ae
