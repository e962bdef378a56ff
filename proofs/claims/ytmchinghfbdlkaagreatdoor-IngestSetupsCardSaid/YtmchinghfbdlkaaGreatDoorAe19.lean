/- A part of the proof that the program's function answers true: lemmas (AwP to So4) on carrying the program out over names of memory objects. No condition. -/
import Derived.Test.YtmchinghfbdlkaaGreatDoorAe18
set_option linter.unusedVariables false
set_option linter.unusedSimpArgs false
namespace Go.Proofs.Ae
open Go.Proofs
noncomputable def s0I : List Nat := [1, 2, 3, 4, 6, 0, 7]
noncomputable def s0O : List AObj := [.cells g1 .ro, .cells g2 .ro, .cells g3 .ro, .cells g4 .ro, .cells g6 .ro, .cells gErr .ro, .cells [] .ro]
theorem s0_lit : s0 = litSt s0I s0O [] 8 := rfl
theorem s0_ok : litOk s0I s0O [] 8 [] [0, 1, 2, 3, 4, 6, 7] = true := by kernel_rfl
theorem glF_mem {i : Nat} (h : glF i = true) : i ∈ [0, 1, 2, 3, 4, 6, 7] := by
  unfold glF at h
  simp only [Bool.or_eq_true] at h
  simp only [List.mem_cons, List.not_mem_nil, or_false]
  rcases h with (((((h | h) | h) | h) | h) | h) | h
  all_goals
    have := Nat.eq_of_beq_eq_true h
    omega
theorem s0_part : Part tbA s0 := by rw [s0_lit]; exact lit_part s0_ok (fun i hi => glF_mem hi)
theorem s0_ro : ∀ i o, s0.get i = some o → o.writable = false := fun i o h => by
  rw [s0_lit] at h
  rcases lit_get h with ⟨j, _, h2⟩ | ⟨h1, _⟩
  · have : o ∈ s0O := List.mem_of_getElem? h2
    simp only [s0O, List.mem_cons, List.not_mem_nil, or_false] at this
    rcases this with rfl | rfl | rfl | rfl | rfl | rfl | rfl <;> rfl
  · cases h1
theorem awLast_spec {o : Option (AX × AA × St)} (h : awLast o = true) : ∃ x a s, o = some (x, a, s) ∧ (x = .normal ∨ x = .ret) ∧ a.df = [] ∧ tmA a.tm 0 = .bool true := by
  unfold awLast at h
  split at h
  · rename_i x a s
    simp only [Bool.and_eq_true] at h
    obtain ⟨h1, h2, h3⟩ := h
    refine ⟨x, a, s, rfl, ?_, ?_, ?_⟩
    · cases x with
      | normal => exact .inl rfl
      | ret => exact .inr rfl
      | exit id => cases h1
    · cases hdd : a.df with
      | nil => rfl
      | cons x l => rw [hdd] at h2; cases h2
    · split at h3
      · rename_i b hb; rw [hb, h3]
      · cases h3
  · cases h
theorem awake_C (s : St) (hs : ∀ i o, s0.get i = some o → s.get i = some o) : CSem Tryz.prog tbA 4 [] s (.bool true) s := by
  have hb : Tryz.f4.body = some (codeOf Tryz.f4) := by kernel_rfl
  refine CSem.ofMB tbA_ok (fn := Tryz.f4) (by kernel_rfl) hb s0_part s0_ro hs (by simp [inD]) ?_
  have hN : Tryz.f4.ntmps = 112 := by kernel_rfl
  rw [hN]
  refine MB.seg tbA_ok tbA_nat aw_seg1 aw_ok1 (fun i hi => glF_mem hi) (fid := 4) ?_
  refine MB.seg tbA_ok tbA_nat aw_seg2 aw_ok2 (fun i hi => glF_mem hi) (fid := 4) ?_
  refine MB.seg tbA_ok tbA_nat aw_seg3 aw_ok3 (fun i hi => glF_mem hi) (fid := 4) ?_
  refine MB.seg tbA_ok tbA_nat aw_seg4 aw_ok4 (fun i hi => glF_mem hi) (fid := 4) ?_
  obtain ⟨x, a, s1, h1, hx, hd, ht⟩ := awLast_spec aw_last
  refine MB.run tbA_ok tbA_nat h1 ⟨hx, hd, [.bool true], ?_, rfl⟩
  rw [show Tryz.f4.results.toList = [.tmp 0] from rfl, res1, ht]
end Go.Proofs.Ae
namespace Go.Proofs.Ae
open Go.Proofs
variable {P : Program} {tb : Tb}
theorem CSem.subR {f : FuncId} {args : List Value} {s t s1 : St} {v : Value} {ρ : Nat → Nat} (h : CSem P tb f args t v s1) (ht : Part tb t) (copy : ∀ i o, t.get i = some o → s.get (ρ i) = some (o.ren ρ) ∨ (o = .dead ∧ hdom s.get (ρ i)))
    (inj : ∀ i j, hdom t.get i → hdom t.get j → ρ i = ρ j → i = j) (flat : ∀ i o, t.get i = some o → o.flat = true) (gl : ∀ i, tb.gl i = true → ρ i = i)
    (hargs : ∀ x ∈ args, inD (fun i _ => hdom t.get i) x) (hv : inD (fun _ _ => False) v) (hM : ∀ i ∈ s1.mods, ∀ o, t.get i = some o → o.writable = false) : CSem P tb f (args.map (ren ρ)) s v s := by
  obtain ⟨h1, h2, h3⟩ := h
  refine ⟨fun _ => Ev.refl s, h2, fun F ι w hok G hin hF => ?_⟩
  obtain ⟨ιt, hιt⟩ : ∃ ιt : Io, ιt = fun i => ι (ρ i) := ⟨_, rfl⟩
  have Gt : Good tb ιt t.get w := by
    refine ⟨fun i o hg => ?_, fun i o j o' hg hg' hw hs hne => ?_, fun i o hg => ?_, fun i hi => ⟨ht.glob i hi, ?_⟩⟩
    · rcases copy i o hg with hc | ⟨rfl, _⟩
      · rw [hιt]; exact (ObjOk.ren (flat i o hg)).1 (G.obj _ _ hc)
      · trivial
    · rcases copy i o hg with hc | ⟨rfl, _⟩
      · rcases copy j o' hg' with hc' | ⟨rfl, _⟩
        · rw [hιt]
          exact G.apart _ _ _ _ hc hc' (by rw [AObj.ren_writable, hw]) (by rw [AObj.ren_solid, hs]) (fun e => hne (inj j i (hdom_of hg') (hdom_of hg) e))
        · cases hs
      · cases hw
    · rcases copy i o hg with hc | ⟨rfl, _⟩
      · have := (AObj.inD_ren (flat i o hg)).1 (G.closed _ _ hc)
        refine AObj.inD_mono (fun a r (hh : roomy ι s.get (ρ a) r ∧ hdom t.get a) => ⟨hh.2, ?_⟩) (AObj.inD_and this (ht.closed i o hg))
        rw [hιt]; exact hh.1.2
      · trivial
    · rw [hιt]; simp only [gl i hi]; exact (G.glob i hi).2
  have hargsT : ∀ x ∈ args, inD (roomy ιt t.get) x := fun x hx => by
    have := (inD_ren _ ρ x).1 (hin (ren ρ x) (List.mem_map.2 ⟨x, hx, rfl⟩))
    refine inD_mono (fun a r (hh : roomy ι s.get (ρ a) r ∧ hdom t.get a) => ⟨hh.2, ?_⟩) x (inD_and x this (hargs x hx))
    rw [hιt]; exact hh.1.2
  have hconc : (args.map (conc ιt)) = ((args.map (ren ρ)).map (conc ι)) := by
    rw [List.map_map]; exact List.map_congr_left fun x _ => by rw [Function.comp, conc_ren, hιt]
  have hcall := h3 F ιt w ht.ok Gt hargsT hF
  rw [hconc] at hcall
  refine hcall.mono fun e w' ⟨ι', k1, k2, k3⟩ => ⟨ι, ?_, Ext.beneath G (k2.below hM) _, inD_False hv⟩
  rw [k1, conc_zero ι hv, conc_zero ι' hv]
noncomputable def glO : List AObj := [.cells gErr .ro, .cells g1 .ro, .cells g2 .ro, .cells g3 .ro, .cells g4 .ro, .cells g6 .ro, .cells [] .ro]
def boxC (n : Int) (a b : Nat) : List Value := [.int .i64 n, .map (some a), .map (some b), .slice none 0 0, .bool false, .int .i64 0, .bool false, .bool false]
def diskC (b : Nat) (n : Int) : List Value := [.pointer (some ⟨b, 0, none⟩), .int .i64 0, .int .i64 n]
def logC (d : Nat) : List Value := [.pointer (some ⟨d, 0, none⟩), .int .i64 1, .int .i64 0, .int .i64 0, .int .i64 1, .int .i64 0, .int .i64 0, .slice none 0 0, .bool false]
noncomputable def secC : List Value := rl [(1, 70), (1, 66), (1, 87), (1, 76), (7, 0), (1, 1), (1, 0), (1, 158), (1, 88), (1, 234), (1, 155), (495, 0)]
def secS (i : Nat) : Value := .slice (some ⟨i, 0, none⟩) 512 (cap0 + 1)
def storeC (d l : Nat) : List Value := [.pointer (some ⟨d, 0, none⟩), .pointer (some ⟨l, 0, none⟩), .slice none 0 0, .int .i64 0, .int .i64 0, .bool false]
def soI0 : List Nat := [0, 1, 2, 3, 4, 6, 7, 8, 9, 10, 11]
noncomputable def soO0 (n : Int) : List AObj := glO ++ [.map [], .map [], .cells (boxC n 8 9) .exact, .cells (diskC 10 n) .exact]
noncomputable def soT (n : Int) : St := litSt soI0 (soO0 n) [] 12
def modsIn (ms : List Nat) : List Nat → Bool
  | [] => true
  | i :: l => (ms.any fun j => Nat.beq i j) && modsIn ms l
noncomputable def runOut (ids ms : List Nat) : Option (Value × St) → Option (Value × List AObj)
  | some (v, s) => match objsAt s ids with
    | some r => bif modsIn ms s.mods then some (v, r) else none
    | none => none
  | none => none
def soI (sec st : Nat) : List Nat := [0, 1, 2, 3, 4, 6, 7, 8, 9, 10, 11, 12, sec, st]
noncomputable def soO (n : Int) (sec : Nat) : List AObj := glO ++ [.map [(.int .i64 0, secS sec)], .map [(.int .i64 0, secS sec)], .cells (boxC n 8 9) .exact, .cells (diskC 10 n) .exact, .cells (logC 11) .exact, .cells secC .grow, .cells (storeC 11 12) .exact]
def SoP (n : Nat) (sec st : Nat) : Prop := runOut (soI sec st) [8, 9, 10] (run tbA 100000 19 [.pointer (some ⟨11, 0, none⟩)] (soT n)) = some (.tuple #[.pointer (some ⟨st, 0, none⟩), .nilIface], soO n sec)
def SoE (n : Nat) : Prop := runOut soI0 [] (run tbA 100000 19 [.pointer (some ⟨11, 0, none⟩)] (soT n)) = some (.tuple #[.pointer none, .iface 36 (.int .i64 1)], soO0 n)
end Go.Proofs.Ae
namespace Go.Proofs.Ae
open Go.Proofs
theorem modsIn_spec {ms : List Nat} : ∀ {l : List Nat}, modsIn ms l = true → ∀ i ∈ l, i ∈ ms
  | [], _ => by simp
  | j :: l, h => by
    unfold modsIn at h
    rw [Bool.and_eq_true, List.any_eq_true] at h
    obtain ⟨⟨k, hk, e⟩, h2⟩ := h
    intro i hi
    rcases List.mem_cons.1 hi with rfl | hi
    · rw [Nat.eq_of_beq_eq_true e]; exact hk
    · exact modsIn_spec h2 i hi
theorem runOut_spec {ids ms : List Nat} {o : Option (Value × St)} {v : Value} {r : List AObj} (h : runOut ids ms o = some (v, r)) : ∃ s, o = some (v, s) ∧ objsAt s ids = some r ∧ ∀ i ∈ s.mods, i ∈ ms := by
  unfold runOut at h
  split at h
  · rename_i v' s
    split at h
    · rename_i r' hr
      obtain ⟨hm, h⟩ := bif_some h
      cases h
      exact ⟨s, rfl, hr, modsIn_spec hm⟩
    · cases h
  · cases h
def Gl (s : St) : Prop := ∀ i o, s0.get i = some o → s.get i = some o
theorem Gl.get {s : St} (h : Gl s) : s.get 0 = some (.cells gErr .ro) ∧ s.get 1 = some (.cells g1 .ro) ∧ s.get 2 = some (.cells g2 .ro) ∧ s.get 3 = some (.cells g3 .ro) ∧ s.get 4 = some (.cells g4 .ro) ∧ s.get 6 = some (.cells g6 .ro) ∧ s.get 7 = some (.cells [] .ro) :=
  ⟨h _ _ (by kernel_rfl), h _ _ (by kernel_rfl), h _ _ (by kernel_rfl), h _ _ (by kernel_rfl), h _ _ (by kernel_rfl), h _ _ (by kernel_rfl), h _ _ (by kernel_rfl)⟩
end Go.Proofs.Ae
namespace Go.Proofs.Ae
open Go.Proofs
theorem litT_dom : ∀ (ids : List Nat) (objs : List AObj) (t : Tr AObj) (i : Nat), ids.length = objs.length → (i ∈ ids ∨ t.get i ≠ none) → (litT ids objs t).get i ≠ none
  | [], [], t, i, _, h => by
    rcases h with h | h
    · cases h
    · exact h
  | [], _ :: _, t, i, hl, h => by cases hl
  | j :: l, [], t, i, hl, h => by cases hl
  | j :: l, o :: r, t, i, hl, h => by
    refine litT_dom l r (t.set j o) i (by simpa using hl) ?_
    by_cases e : i = j
    · subst e; exact .inr (by rw [Tr.get_set_self]; simp)
    · rcases h with h | h
      · rcases List.mem_cons.1 h with h | h
        · exact absurd h e
        · exact .inl h
      · exact .inr (by rw [Tr.get_set_ne _ _ _ _ e]; exact h)
theorem lit_dom {ids : List Nat} {objs : List AObj} {nx i : Nat} (hl : ids.length = objs.length) (h : i ∈ ids) : hdom (litSt ids objs [] nx).get i := litT_dom ids objs _ i hl (.inl h)
theorem lit_mem {ids : List Nat} {objs : List AObj} {nx i : Nat} (h : hdom (litSt ids objs [] nx).get i) : i ∈ ids := by
  obtain ⟨o, ho⟩ := get_of_hdom h
  rcases lit_get ho with ⟨j, h1, _⟩ | ⟨h1, _⟩
  · exact List.mem_of_getElem? h1
  · cases h1
theorem ren_ints {ρ : Nat → Nat} {l : List Value} (h : l.all (fun v => match v with | .int _ _ => true | _ => false) = true) : l.map (ren ρ) = l := by
  rw [List.all_eq_true] at h
  refine (List.map_congr_left (g := fun v => v) fun v hv => ?_).trans (by simp)
  have := h v hv
  cases v <;> first | (simp at this; done) | simp only [ren]
theorem ren_g (ρ : Nat → Nat) : g1.map (ren ρ) = g1 ∧ g2.map (ren ρ) = g2 ∧ g3.map (ren ρ) = g3 ∧ g4.map (ren ρ) = g4 ∧ g6.map (ren ρ) = g6 :=
  ⟨ren_ints (by kernel_rfl), ren_ints (by kernel_rfl), ren_ints (by kernel_rfl), ren_ints (by kernel_rfl), ren_ints (by kernel_rfl)⟩
theorem ren_err (ρ : Nat → Nat) (h : ρ 7 = 7) : gErr.map (ren ρ) = gErr := by
  simp [gErr, ren, h]
theorem gl_copy {s : St} (hG : Gl s) {ρ : Nat → Nat} (hρ : ∀ i, i ≤ 7 → ρ i = i) {j i : Nat} {o : AObj} (h1 : [0, 1, 2, 3, 4, 6, 7][j]? = some i) (h2 : glO[j]? = some o) : i ≤ 7 ∧ o.flat = true ∧ o.writable = false ∧ s.get i = some o ∧ o.ren ρ = o ∧ o.inD (fun k _ => k = 7) := by
  obtain ⟨q0, q1, q2, q3, q4, q6, q7⟩ := hG.get
  obtain ⟨r1, r2, r3, r4, r6⟩ := ren_g ρ
  have ri : ∀ {l : List Value}, l.all (fun v => match v with | .int _ _ => true | _ => false) = true → ∀ v ∈ l, inD (fun k _ => k = 7) v := fun {l} h v hv => by
    rw [List.all_eq_true] at h
    have := h v hv
    cases v <;> first | (simp at this; done) | simp [inD]
  unfold glO at h2
  match j, h1, h2 with
  | 0, h1, h2 => cases h1; cases h2; exact ⟨by omega, rfl, rfl, q0, by simp only [AObj.ren, ren_err ρ (hρ 7 (by omega))], by simp [AObj.inD, gErr, inD]⟩
  | 1, h1, h2 => cases h1; cases h2; exact ⟨by omega, rfl, rfl, q1, by simp only [AObj.ren, r1], ri (by kernel_rfl)⟩
  | 2, h1, h2 => cases h1; cases h2; exact ⟨by omega, rfl, rfl, q2, by simp only [AObj.ren, r2], ri (by kernel_rfl)⟩
  | 3, h1, h2 => cases h1; cases h2; exact ⟨by omega, rfl, rfl, q3, by simp only [AObj.ren, r3], ri (by kernel_rfl)⟩
  | 4, h1, h2 => cases h1; cases h2; exact ⟨by omega, rfl, rfl, q4, by simp only [AObj.ren, r4], ri (by kernel_rfl)⟩
  | 5, h1, h2 => cases h1; cases h2; exact ⟨by omega, rfl, rfl, q6, by simp only [AObj.ren, r6], ri (by kernel_rfl)⟩
  | 6, h1, h2 => cases h1; cases h2; exact ⟨by omega, rfl, rfl, q7, rfl, by simp [AObj.inD]⟩
  | k + 7, h1, h2 => simp at h1
end Go.Proofs.Ae
namespace Go.Proofs.Ae
open Go.Proofs
def soR (a b c d : Nat) (i : Nat) : Nat := if i = 8 then a else if i = 9 then b else if i = 10 then c else if i = 11 then d else i
def soR' (a b c d sec st x : Nat) (i : Nat) : Nat := if i = 12 then x else if i = sec then x + 1 else if i = st then x + 2 else soR a b c d i
def soTau (sec st x : Nat) (j : Nat) : Nat := if j = x then 12 else if j = x + 1 then sec else st
def soM (x : Nat) : AObj := .map [(.int .i64 0, secS (x + 1))]
noncomputable def soS (s : St) (n : Int) (a b c d : Nat) : St := (((((s.upd a (soM s.next)).upd b (soM s.next)).upd c (.cells (boxC n a b) .exact)).alloc (.cells (logC d) .exact)).alloc (.cells secC .grow)).alloc (.cells (storeC d s.next) .exact)
theorem ids_split {gl l : List Nat} {ol L : List AObj} {j i : Nat} {o : AObj} (hl : gl.length = ol.length) (h1 : (gl ++ l)[j]? = some i) (h2 : (ol ++ L)[j]? = some o) : (gl[j]? = some i ∧ ol[j]? = some o) ∨ ∃ k : Nat, l[k]? = some i ∧ L[k]? = some o := by
  by_cases hj : j < gl.length
  · rw [List.getElem?_append_left hj] at h1
    rw [List.getElem?_append_left (by omega)] at h2
    exact .inl ⟨h1, h2⟩
  · rw [List.getElem?_append_right (by omega)] at h1
    rw [List.getElem?_append_right (by omega), ← hl] at h2
    exact .inr ⟨_, h1, h2⟩
theorem rl_ints : ∀ r : List (Nat × Int), (rl r).all (fun v => match v with | .int _ _ => true | _ => false) = true
  | [] => rfl
  | (n, b) :: l => by
    unfold rl
    rw [List.all_append, rl_ints l, Bool.and_true]
    induction n with
    | zero => rfl
    | succ n ih => exact ih
theorem secC_ren (ρ : Nat → Nat) : secC.map (ren ρ) = secC := ren_ints (rl_ints _)
theorem secC_in {D : Nat → Nat → Prop} : ∀ v ∈ secC, inD D v := fun v hv => by
  have h := rl_ints [(1, 70), (1, 66), (1, 87), (1, 76), (7, 0), (1, 1), (1, 0), (1, 158), (1, 88), (1, 234), (1, 155), (495, 0)]
  rw [List.all_eq_true] at h
  have := h v hv
  cases v <;> first | (simp at this; done) | simp [inD]
theorem soT_get {n : Int} {i : Nat} {o : AObj} (h : (soT n).get i = some o) : (∃ j : Nat, [0, 1, 2, 3, 4, 6, 7][j]? = some i ∧ glO[j]? = some o) ∨ (i = 8 ∧ o = .map []) ∨ (i = 9 ∧ o = .map []) ∨ (i = 10 ∧ o = .cells (boxC n 8 9) .exact) ∨ (i = 11 ∧ o = .cells (diskC 10 n) .exact) := by
  rcases lit_get h with ⟨j, h1, h2⟩ | ⟨h1, _⟩
  · rcases ids_split (gl := [0, 1, 2, 3, 4, 6, 7]) (l := [8, 9, 10, 11]) (ol := glO) rfl h1 h2 with ⟨k1, k2⟩ | ⟨k, k1, k2⟩
    · exact .inl ⟨j, k1, k2⟩
    · refine .inr ?_
      match k, k1, k2 with
      | 0, k1, k2 => cases k1; cases k2; simp
      | 1, k1, k2 => cases k1; cases k2; simp
      | 2, k1, k2 => cases k1; cases k2; simp
      | 3, k1, k2 => cases k1; cases k2; simp
      | k + 4, k1, k2 => simp at k1
  · cases h1
noncomputable def soU (n : Int) (sec st : Nat) : St := litSt (soI sec st) (soO n sec) [] (st + 1)
theorem soU_get {n : Int} {sec st i : Nat} {o : AObj} (h : (soU n sec st).get i = some o) : (∃ j : Nat, [0, 1, 2, 3, 4, 6, 7][j]? = some i ∧ glO[j]? = some o) ∨ (i = 8 ∧ o = .map [(.int .i64 0, secS sec)]) ∨ (i = 9 ∧ o = .map [(.int .i64 0, secS sec)]) ∨ (i = 10 ∧ o = .cells (boxC n 8 9) .exact) ∨ (i = 11 ∧ o = .cells (diskC 10 n) .exact) ∨
    (i = 12 ∧ o = .cells (logC 11) .exact) ∨ (i = sec ∧ o = .cells secC .grow) ∨ (i = st ∧ o = .cells (storeC 11 12) .exact) := by
  rcases lit_get h with ⟨j, h1, h2⟩ | ⟨h1, _⟩
  · rcases ids_split (gl := [0, 1, 2, 3, 4, 6, 7]) (l := [8, 9, 10, 11, 12, sec, st]) (ol := glO) rfl h1 h2 with ⟨k1, k2⟩ | ⟨k, k1, k2⟩
    · exact .inl ⟨j, k1, k2⟩
    · refine .inr ?_
      match k, k1, k2 with
      | 0, k1, k2 => cases k1; cases k2; simp
      | 1, k1, k2 => cases k1; cases k2; simp
      | 2, k1, k2 => cases k1; cases k2; simp
      | 3, k1, k2 => cases k1; cases k2; simp
      | 4, k1, k2 => cases k1; cases k2; simp
      | 5, k1, k2 => cases k1; cases k2; simp
      | 6, k1, k2 => cases k1; cases k2; simp
      | k + 7, k1, k2 => simp at k1
  · cases h1
theorem soU_dom {n : Int} {sec st i : Nat} : hdom (soU n sec st).get i ↔ i ∈ soI sec st := ⟨lit_mem, lit_dom rfl⟩
theorem soT_dom {n : Int} {i : Nat} : hdom (soT n).get i ↔ i ∈ soI0 := ⟨lit_mem, lit_dom rfl⟩
theorem soT_part (n : Int) : Part tbA (soT n) := lit_part (tms := []) (gls := [0, 1, 2, 3, 4, 6, 7]) (by kernel_rfl) (fun i hi => glF_mem hi)
theorem soR_gl {a b c d i : Nat} (h : i ≤ 7) : soR a b c d i = i := by
  unfold soR
  rw [if_neg (by omega), if_neg (by omega), if_neg (by omega), if_neg (by omega)]
theorem glF_le {i : Nat} (h : glF i = true) : i ≤ 7 := by
  have := glF_mem h
  simp only [List.mem_cons, List.not_mem_nil, or_false] at this
  omega
set_option maxHeartbeats 4000000 in
theorem so_C (n : Int) (sec st : Nat) (hP : runOut (soI sec st) [8, 9, 10] (run tbA 100000 19 [.pointer (some ⟨11, 0, none⟩)] (soT n)) = some (.tuple #[.pointer (some ⟨st, 0, none⟩), .nilIface], soO n sec)) (hs : 12 < sec) (hst : sec < st) (s : St) (hok : s.Ok) (hG : Gl s) (a b c d : Nat)
    (ha : s.get a = some (.map [])) (hb : s.get b = some (.map [])) (hab : a ≠ b) (hc : s.get c = some (.cells (boxC n a b) .exact)) (hd : s.get d = some (.cells (diskC c n) .exact)) :
    CSem Tryz.prog tbA 19 [.pointer (some ⟨d, 0, none⟩)] s (.tuple #[.pointer (some ⟨s.next + 2, 0, none⟩), .nilIface]) (soS s n a b c d) := by
  obtain ⟨t', hrun, hobj, hmod⟩ := runOut_spec hP
  obtain ⟨_, hobj⟩ := objsAt_spec hobj
  have la := hok _ (hdom_of ha)
  have lb := hok _ (hdom_of hb)
  have lc := hok _ (hdom_of hc)
  have ld := hok _ (hdom_of hd)
  obtain ⟨q0, q1, q2, q3, q4, q6, q7⟩ := hG.get
  have hac : a ≠ c := fun e => by rw [e, hc] at ha; cases ha
  have had : a ≠ d := fun e => by rw [e, hd] at ha; cases ha
  have hbc : b ≠ c := fun e => by rw [e, hc] at hb; cases hb
  have hbd : b ≠ d := fun e => by rw [e, hd] at hb; cases hb
  have hcd : c ≠ d := fun e => by rw [e, hd] at hc; unfold boxC diskC at hc; cases hc
  have n0 : ∀ x o, s.get x = some o → o.writable = true → x ≠ 0 ∧ x ≠ 1 ∧ x ≠ 2 ∧ x ≠ 3 ∧ x ≠ 4 ∧ x ≠ 6 ∧ x ≠ 7 := fun x o hx hw => by
    refine ⟨?_, ?_, ?_, ?_, ?_, ?_, ?_⟩ <;> (intro e; subst e; first | (rw [q0] at hx; cases hx; cases hw) | (rw [q1] at hx; cases hx; cases hw) | (rw [q2] at hx; cases hx; cases hw) | (rw [q3] at hx; cases hx; cases hw) | (rw [q4] at hx; cases hx; cases hw) | (rw [q6] at hx; cases hx; cases hw) | (rw [q7] at hx; cases hx; cases hw))
  have na := n0 a _ ha rfl
  have nb := n0 b _ hb rfl
  have nc := n0 c _ hc rfl
  have nd := n0 d _ hd rfl
  have l7 : 7 < s.next := hok _ (hdom_of q7)
  obtain ⟨x, hx⟩ : ∃ x, x = s.next := ⟨_, rfl⟩
  have s_a : (soS s n a b c d).get a = some (soM s.next) := by
    unfold soS
    rw [St.get_alloc_ne _ _ _ (by simp; omega), St.get_alloc_ne _ _ _ (by simp; omega), St.get_alloc_ne _ _ _ (by simp; omega), St.get_upd_ne _ _ _ _ hac, St.get_upd_ne _ _ _ _ hab, St.get_upd_self]
  have s_b : (soS s n a b c d).get b = some (soM s.next) := by
    unfold soS
    rw [St.get_alloc_ne _ _ _ (by simp; omega), St.get_alloc_ne _ _ _ (by simp; omega), St.get_alloc_ne _ _ _ (by simp; omega), St.get_upd_ne _ _ _ _ hbc, St.get_upd_self]
  have s_c : (soS s n a b c d).get c = some (.cells (boxC n a b) .exact) := by
    unfold soS
    rw [St.get_alloc_ne _ _ _ (by simp; omega), St.get_alloc_ne _ _ _ (by simp; omega), St.get_alloc_ne _ _ _ (by simp; omega), St.get_upd_self]
  have s_x : (soS s n a b c d).get s.next = some (.cells (logC d) .exact) := by
    unfold soS
    rw [St.get_alloc_ne _ _ _ (by show s.next ≠ s.next + 2; omega), St.get_alloc_ne _ _ _ (by show s.next ≠ s.next + 1; omega)]
    exact St.get_alloc_self _ _
  have s_x1 : (soS s n a b c d).get (s.next + 1) = some (.cells secC .grow) := by
    unfold soS
    rw [St.get_alloc_ne _ _ _ (by show s.next + 1 ≠ s.next + 2; omega)]
    exact St.get_alloc_self _ _
  have s_x2 : (soS s n a b c d).get (s.next + 2) = some (.cells (storeC d s.next) .exact) := by
    unfold soS
    exact St.get_alloc_self _ _
  have s_o : ∀ j, j ≠ a → j ≠ b → j ≠ c → j ≠ s.next → j ≠ s.next + 1 → j ≠ s.next + 2 → (soS s n a b c d).get j = s.get j := fun j h1 h2 h3 h4 h5 h6 => by
    unfold soS
    rw [St.get_alloc_ne _ _ _ (by simpa using h6), St.get_alloc_ne _ _ _ (by simpa using h5), St.get_alloc_ne _ _ _ (by simpa using h4), St.get_upd_ne _ _ _ _ h3, St.get_upd_ne _ _ _ _ h2, St.get_upd_ne _ _ _ _ h1]
  have hev : Ev s (soS s n a b c d) := by
    unfold soS
    have e1 : Ev s (s.upd a (soM s.next)) := Ev.upd _ ha
    have e2 := e1.trans (Ev.upd (soM s.next) (id := b) (by rw [St.get_upd_ne _ _ _ _ (Ne.symm hab), hb]))
    have e3 := e2.trans (Ev.upd (.cells (boxC n a b) .exact) (id := c) (by rw [St.get_upd_ne _ _ _ _ (Ne.symm hbc), St.get_upd_ne _ _ _ _ (Ne.symm hac), hc]))
    have e4 := e3.trans (Ev.alloc (.cells (logC d) .exact) (e3.ok hok).fresh)
    have e5 := e4.trans (Ev.alloc (.cells secC .grow) (e4.ok hok).fresh)
    exact e5.trans (Ev.alloc _ (e5.ok hok).fresh)
  have hsm : ∀ i, i = a ∨ i = b ∨ i = c → i ∈ (soS s n a b c d).mods := fun i hi => by
    show i ∈ c :: b :: a :: s.mods
    rcases hi with rfl | rfl | rfl <;> simp
  generalize soS s n a b c d = s' at s_a s_b s_c s_x s_x1 s_x2 s_o hev hsm ⊢
  rw [← hx] at s_a s_b s_x s_x1 s_x2 s_o
  have hrR : ∀ i, i ∈ soI0 → i ≠ 12 ∧ i ≠ sec ∧ i ≠ st ∧ soR' a b c d sec st x i = soR a b c d i := fun i hi => by
    simp only [soI0, List.mem_cons, List.not_mem_nil, or_false] at hi
    have h1 : i ≠ 12 := by omega
    have h2 : i ≠ sec := by omega
    have h3 : i ≠ st := by omega
    exact ⟨h1, h2, h3, by unfold soR'; rw [if_neg h1, if_neg h2, if_neg h3]⟩
  have R7 : ∀ i, i ≤ 7 → soR' a b c d sec st x i = i := fun i hi => by
    unfold soR'
    rw [if_neg (by omega), if_neg (by omega), if_neg (by omega), soR_gl hi]
  have R8 : soR' a b c d sec st x 8 = a := by unfold soR'; rw [if_neg (by omega), if_neg (by omega), if_neg (by omega)]; rfl
  have R9 : soR' a b c d sec st x 9 = b := by unfold soR'; rw [if_neg (by omega), if_neg (by omega), if_neg (by omega)]; rfl
  have R10 : soR' a b c d sec st x 10 = c := by unfold soR'; rw [if_neg (by omega), if_neg (by omega), if_neg (by omega)]; rfl
  have R11 : soR' a b c d sec st x 11 = d := by unfold soR'; rw [if_neg (by omega), if_neg (by omega), if_neg (by omega)]; rfl
  have R12 : soR' a b c d sec st x 12 = x := by unfold soR'; rw [if_pos rfl]
  have Rs : soR' a b c d sec st x sec = x + 1 := by unfold soR'; rw [if_neg (by omega), if_pos rfl]
  have Rt : soR' a b c d sec st x st = x + 2 := by unfold soR'; rw [if_neg (by omega), if_neg (by omega), if_pos rfl]
  have hUI : ∀ i, i ∈ soI sec st → (i ≤ 7 ∧ i ≠ 5 ∧ soR' a b c d sec st x i = i) ∨ (i = 8 ∧ soR' a b c d sec st x i = a) ∨ (i = 9 ∧ soR' a b c d sec st x i = b) ∨ (i = 10 ∧ soR' a b c d sec st x i = c) ∨ (i = 11 ∧ soR' a b c d sec st x i = d) ∨ (i = 12 ∧ soR' a b c d sec st x i = x) ∨ (i = sec ∧ soR' a b c d sec st x i = x + 1) ∨ (i = st ∧ soR' a b c d sec st x i = x + 2) := fun i hi => by
    simp only [soI, List.mem_cons, List.not_mem_nil, or_false] at hi
    by_cases h7 : i ≤ 7
    · exact .inl ⟨h7, by omega, R7 i h7⟩
    · rcases (by omega : i = 8 ∨ i = 9 ∨ i = 10 ∨ i = 11 ∨ i = 12 ∨ i = sec ∨ i = st) with e | e | e | e | e | e | e <;> subst e <;> simp [R8, R9, R10, R11, R12, Rs, Rt]
  have hfr : Fr tbA (soT n) (soU n sec st) s s' t'.mods (soR a b c d) (soR' a b c d sec st x) (soTau sec st x) := by
    refine ⟨fun i o h => ?_, fun i j hi hj e => ?_, fun i hi => (hrR i (soT_dom.1 hi)).2.2.2, fun i hi hn => ?_, fun i hi => ?_, fun i o h => ?_, fun i o h => ?_, fun i o h => ?_, fun j hj => ?_, fun i hi hd => ?_, fun _ => hev, fun i hi => soR_gl (glF_le hi)⟩
    · rcases soT_get h with ⟨j, h1, h2⟩ | ⟨rfl, rfl⟩ | ⟨rfl, rfl⟩ | ⟨rfl, rfl⟩ | ⟨rfl, rfl⟩
      · obtain ⟨k1, _, _, k2, k3, _⟩ := gl_copy hG (ρ := soR a b c d) (fun i hi => soR_gl hi) h1 h2
        rw [soR_gl k1, k3, k2]
      · exact ha
      · exact hb
      · have : (AObj.cells (boxC n 8 9) .exact).ren (soR a b c d) = .cells (boxC n a b) .exact := by simp [AObj.ren, boxC, ren, soR]
        rw [this]; exact hc
      · have : (AObj.cells (diskC 10 n) .exact).ren (soR a b c d) = .cells (diskC c n) .exact := by simp [AObj.ren, diskC, ren, soR]
        rw [this]; exact hd
    · have h1 := hUI i (soU_dom.1 hi)
      have h2 := hUI j (soU_dom.1 hj)
      obtain ⟨a0, a1, a2, a3, a4, a6, a7⟩ := na
      obtain ⟨b0, b1, b2, b3, b4, b6, b7⟩ := nb
      obtain ⟨c0, c1, c2, c3, c4, c6, c7⟩ := nc
      obtain ⟨d0, d1, d2, d3, d4, d6, d7⟩ := nd
      clear hUI hj hi q0 q1 q2 q3 q4 q6 q7 hP hobj hmod s_a s_b s_c s_x s_x1 s_x2 s_o hrR R7
      rcases h1 with h1 | h1 | h1 | h1 | h1 | h1 | h1 | h1 <;> rcases h2 with h2 | h2 | h2 | h2 | h2 | h2 | h2 | h2 <;> omega
    · have h1 := hUI i (soU_dom.1 hi)
      have h2 : i ∉ soI0 := fun h => hn (soT_dom.2 h)
      simp only [soI0, List.mem_cons, List.not_mem_nil, or_false] at h2
      rcases (by omega : i = 12 ∨ i = sec ∨ i = st) with e | e | e
      · subst e; rw [R12]; exact ⟨by omega, by unfold soTau; rw [if_pos rfl]⟩
      · subst e; rw [Rs]; exact ⟨by omega, by unfold soTau; rw [if_neg (by omega), if_pos rfl]⟩
      · subst e; rw [Rt]; exact ⟨by omega, by unfold soTau; rw [if_neg (by omega), if_neg (by omega)]⟩
    · have := soT_dom.1 hi
      refine soU_dom.2 ?_
      simp only [soI0, List.mem_cons, List.not_mem_nil, or_false] at this
      simp only [soI, List.mem_cons, List.not_mem_nil, or_false]
      omega
    · rcases soT_get h with ⟨j, h1, h2⟩ | ⟨rfl, rfl⟩ | ⟨rfl, rfl⟩ | ⟨rfl, rfl⟩ | ⟨rfl, rfl⟩
      · exact (gl_copy hG (ρ := fun i => i) (fun i hi => rfl) h1 h2).2.1
      all_goals rfl
    · rcases soU_get h with ⟨j, h1, h2⟩ | ⟨rfl, rfl⟩ | ⟨rfl, rfl⟩ | ⟨rfl, rfl⟩ | ⟨rfl, rfl⟩ | ⟨rfl, rfl⟩ | ⟨rfl, rfl⟩ | ⟨rfl, rfl⟩
      · exact (gl_copy hG (ρ := fun i => i) (fun i hi => rfl) h1 h2).2.1
      all_goals rfl
    · rcases soU_get h with ⟨j, h1, h2⟩ | ⟨rfl, rfl⟩ | ⟨rfl, rfl⟩ | ⟨rfl, rfl⟩ | ⟨rfl, rfl⟩ | ⟨rfl, rfl⟩ | ⟨rfl, rfl⟩ | ⟨rfl, rfl⟩
      · obtain ⟨k1, _, kw, k2, k3, _⟩ := gl_copy hG (ρ := soR' a b c d sec st x) R7 h1 h2
        have hw : ∀ y oy, s.get y = some oy → oy.writable = true → i ≠ y := fun y oy hy hw e => by subst e; rw [k2] at hy; cases hy; rw [kw] at hw; cases hw
        rw [R7 i k1, k3, s_o i (hw a _ ha rfl) (hw b _ hb rfl) (hw c _ hc rfl) (by omega) (by omega) (by omega), k2]
      · rw [R8, s_a]; simp [AObj.ren, ren, secS, soM, Rs]
      · rw [R9, s_b]; simp [AObj.ren, ren, secS, soM, Rs]
      · rw [R10, s_c]; simp [AObj.ren, ren, boxC, R8, R9]
      · rw [R11, s_o d (Ne.symm had) (Ne.symm hbd) (Ne.symm hcd) (by omega) (by omega) (by omega), hd]; simp [AObj.ren, ren, diskC, R10]
      · rw [R12, s_x]; simp [AObj.ren, ren, logC, R11]
      · rw [Rs, s_x1]; simp only [AObj.ren, secC_ren]
      · rw [Rt, s_x2]; simp [AObj.ren, ren, storeC, R11, R12]
    · have g : ∀ i, i ∈ soI sec st → soR' a b c d sec st x i ≠ j := fun i hi => hj i (soU_dom.2 hi)
      have e8 := g 8 (by simp [soI])
      have e9 := g 9 (by simp [soI])
      have e10 := g 10 (by simp [soI])
      have e12 := g 12 (by simp [soI])
      have es := g sec (by simp [soI])
      have et := g st (by simp [soI])
      rw [R8] at e8
      rw [R9] at e9
      rw [R10] at e10
      rw [R12] at e12
      rw [Rs] at es
      rw [Rt] at et
      exact s_o j (Ne.symm e8) (Ne.symm e9) (Ne.symm e10) (Ne.symm e12) (Ne.symm es) (Ne.symm et)
    · have := hmod i hi
      simp only [List.mem_cons, List.not_mem_nil, or_false] at this
      rcases this with rfl | rfl | rfl
      · exact hsm _ (.inl rfl)
      · exact hsm _ (.inr (.inl rfl))
      · exact hsm _ (.inr (.inr rfl))
  have hfin := CSem.frame (run_ok tbA_ok tbA_nat hrun) (soT_part n) (u := soU n sec st) (fun i o h => ?_) (fun i o h => ?_) hfr (fun y hy => ?_) ?_
  · have e1 : [Value.pointer (some ⟨11, 0, none⟩)].map (ren (soR a b c d)) = [.pointer (some ⟨d, 0, none⟩)] := by simp [ren, soR]
    have e2 : ren (soR' a b c d sec st x) (.tuple #[.pointer (some ⟨st, 0, none⟩), .nilIface]) = .tuple #[.pointer (some ⟨x + 2, 0, none⟩), .nilIface] := by simp [ren, Rt]
    rw [e1, e2, hx] at hfin
    exact hfin
  · rcases lit_get h with ⟨j, h1, h2⟩ | ⟨h1, _⟩
    · exact hobj j i o h1 h2
    · cases h1
  · have dU : ∀ y, y ∈ soI sec st → hdom (soU n sec st).get y := fun y hy => soU_dom.2 hy
    rcases soU_get h with ⟨j, h1, h2⟩ | ⟨rfl, rfl⟩ | ⟨rfl, rfl⟩ | ⟨rfl, rfl⟩ | ⟨rfl, rfl⟩ | ⟨rfl, rfl⟩ | ⟨rfl, rfl⟩ | ⟨rfl, rfl⟩
    · exact AObj.inD_mono (fun k _ (hk : k = 7) => by subst hk; exact dU 7 (by simp [soI])) (gl_copy hG (ρ := fun i => i) (fun i hi => rfl) h1 h2).2.2.2.2.2
    · simp only [AObj.inD, List.mem_singleton, forall_eq, secS, inD, true_and]; exact dU sec (by simp [soI])
    · simp only [AObj.inD, List.mem_singleton, forall_eq, secS, inD, true_and]; exact dU sec (by simp [soI])
    · simp only [AObj.inD, boxC, List.mem_cons, List.not_mem_nil, or_false, forall_eq_or_imp, forall_eq, inD, true_and, and_true]; exact ⟨dU 8 (by simp [soI]), dU 9 (by simp [soI])⟩
    · simp only [AObj.inD, diskC, List.mem_cons, List.not_mem_nil, or_false, forall_eq_or_imp, forall_eq, inD, true_and, and_true]; exact dU 10 (by simp [soI])
    · simp only [AObj.inD, logC, List.mem_cons, List.not_mem_nil, or_false, forall_eq_or_imp, forall_eq, inD, true_and, and_true]; exact dU 11 (by simp [soI])
    · exact secC_in
    · simp only [AObj.inD, storeC, List.mem_cons, List.not_mem_nil, or_false, forall_eq_or_imp, forall_eq, inD, true_and, and_true]; exact ⟨dU 11 (by simp [soI]), dU 12 (by simp [soI])⟩
  · simp only [List.mem_singleton] at hy
    subst hy
    simp only [inD]; exact soT_dom.2 (by simp [soI0])
  · simp only [inD]
    intro y hy
    simp at hy
    rcases hy with rfl | rfl
    · simp only [inD]; exact soU_dom.2 (by simp [soI])
    · simp [inD]
end Go.Proofs.Ae
