/- A part of the proof that the program's function answers true: lemmas (Sim13 to Eff) on carrying the program out over names of memory objects. No condition. -/
import Derived.Test.YtmchinghfbdlkaaGreatDoorAe02
import Derived.Laws.AppendOwn
set_option linter.unusedVariables false
set_option linter.unusedSimpArgs false
namespace Go.Proofs.Ae
variable {P : Program} {tb : Tb}
theorem bytes_beq (x y : ByteArray) : (x == y) = true ↔ x = y := by
  rw [← strEq_beq]
  unfold strEq
  rw [beq_iff_eq]
  constructor
  · intro h
    exact ByteArray.ext (Array.ext' h)
  · intro h; rw [h]
theorem bytes_beq_comm (x y : ByteArray) : (x == y) = (y == x) := by
  rw [Bool.eq_iff_iff, bytes_beq, bytes_beq]
  exact eq_comm
theorem keyEq_some {a b : Value} {r : Bool} (h : keyEq a b = some r) : (∃ k x y, a = .int k x ∧ b = .int k y ∧ r = (x == y)) ∨ (∃ x y, a = .string x ∧ b = .string y ∧ r = (x == y)) := by
  unfold keyEq at h
  split at h
  · rename_i k x k' y
    cases hk : decide (k = k') with
    | false => rw [hk] at h; cases h
    | true =>
      rw [hk] at h
      simp only [cond_true, Option.some.injEq] at h
      have := of_decide_eq_true hk
      subst this
      exact .inl ⟨k, x, y, rfl, rfl, by rw [← h, eqI_eq]⟩
  · rename_i x y
    cases h
    exact .inr ⟨x, y, rfl, rfl, strEq_beq x y⟩
  · cases h
theorem keyEq_iff {a b : Value} {r : Bool} (h : keyEq a b = some r) : (r = true ↔ a = b) := by
  rcases keyEq_some h with ⟨k, x, y, rfl, rfl, rfl⟩ | ⟨x, y, rfl, rfl, rfl⟩
  · simp
  · rw [bytes_beq]; simp
theorem keyEq_conc {a b : Value} {r : Bool} (h : keyEq a b = some r) (ι : Io) : conc ι b = b ∧ conc ι a = a := by
  rcases keyEq_some h with ⟨k, x, y, rfl, rfl, _⟩ | ⟨x, y, rfl, rfl, _⟩ <;> simp [conc]
theorem keyEq_trans {a b c : Value} {r q : Bool} (h : keyEq a b = some r) (k : keyEq b c = some q) : ∃ z, keyEq a c = some z := by
  rcases keyEq_some h with ⟨k1, x, y, rfl, rfl, _⟩ | ⟨x, y, rfl, rfl, _⟩
  · rcases keyEq_some k with ⟨k2, x2, y2, e, rfl, _⟩ | ⟨x2, y2, e, rfl, _⟩
    · cases e; exact ⟨x == y2, by simp [keyEq, eqI_eq]⟩
    · cases e
  · rcases keyEq_some k with ⟨k2, x2, y2, e, rfl, _⟩ | ⟨x2, y2, e, rfl, _⟩
    · cases e
    · cases e; exact ⟨x == y2, by simp [keyEq, strEq_beq]⟩
theorem keyEq_symm {a b : Value} {r : Bool} (h : keyEq a b = some r) : keyEq b a = some r := by
  rcases keyEq_some h with ⟨k1, x, y, rfl, rfl, rfl⟩ | ⟨x, y, rfl, rfl, rfl⟩
  · simp only [keyEq, decide_true, cond_true, eqI_eq]; congr 1; exact Bool.beq_comm
  · simp only [keyEq, strEq_beq]; congr 1; exact bytes_beq_comm _ _
theorem findA_some {k : Value} : ∀ {es : List (Value × Value)} {r : Option Value}, findA k es = some r → KeysOk es →
    (∀ p ∈ es, ∃ b, keyEq k p.1 = some b) ∧ ((r = none ∧ ∀ p ∈ es, k ≠ p.1) ∨ ∃ p ∈ es, k = p.1 ∧ r = some p.2)
  | [], r, h, _ => by
    cases h
    refine ⟨fun p hp => ?_, .inl ⟨rfl, fun p hp => ?_⟩⟩ <;> cases hp
  | e :: es, r, h, hk => by
    obtain ⟨hk1, hk2⟩ := List.pairwise_cons.1 hk
    change (match keyEq k e.1 with
      | some true => some (some e.2)
      | some false => findA k es
      | none => none) = some r at h
    split at h
    · rename_i he
      cases h
      refine ⟨fun p hp => ?_, .inr ⟨e, by simp, (keyEq_iff he).1 rfl, rfl⟩⟩
      rcases List.mem_cons.1 hp with rfl | hp
      · exact ⟨_, he⟩
      · exact keyEq_trans he (hk1 p hp)
    · rename_i he
      obtain ⟨h1, h2⟩ := findA_some h hk2
      refine ⟨fun p hp => ?_, ?_⟩
      · rcases List.mem_cons.1 hp with rfl | hp
        · exact ⟨_, he⟩
        · exact h1 p hp
      · rcases h2 with ⟨rfl, h3⟩ | ⟨p, hp, h3, h4⟩
        · refine .inl ⟨rfl, fun p hp => ?_⟩
          rcases List.mem_cons.1 hp with rfl | hp
          · intro e'; have := (keyEq_iff he).2 e'; cases this
          · exact h3 p hp
        · exact .inr ⟨p, by simp [hp], h3, h4⟩
    · cases h
theorem keys_apart {es : List (Value × Value)} (h : KeysOk es) : ∀ {p q : Value × Value}, p ∈ es → q ∈ es → p.1 = q.1 → p = q := by
  induction h with
  | nil => intro p q hp; cases hp
  | cons h1 h2 ih =>
    intro p q hp hq e
    rcases List.mem_cons.1 hp with hp' | hp' <;> rcases List.mem_cons.1 hq with hq' | hq'
    · rw [hp', hq']
    · rw [hp'] at e; have := (keyEq_iff (h1 _ hq')).2 e; cases this
    · rw [hq'] at e; have := (keyEq_iff (h1 _ hp')).2 e.symm; cases this
    · exact ih hp' hq' e
theorem findNow_spec {kind : TypeDesc} {k : Value} : ∀ (ms : List MapEntry) (n : Nat), (∀ m ∈ ms, ∃ b, Instr.sameNow kind k m.key = some b ∧ (b = true ↔ k = m.key)) →
    (Instr.findNow kind k ms n = some none ∧ ∀ m ∈ ms, k ≠ m.key) ∨ ∃ i m, ms[i]? = some m ∧ k = m.key ∧ Instr.findNow kind k ms n = some (some (n + i, m.val))
  | [], n, _ => .inl ⟨rfl, fun m hm => by cases hm⟩
  | e :: ms, n, h => by
    obtain ⟨b, hb, hbi⟩ := h e (by simp)
    cases b with
    | true => exact .inr ⟨0, e, rfl, hbi.1 rfl, by simp [Instr.findNow, hb]⟩
    | false =>
      have hf : Instr.findNow kind k (e :: ms) n = Instr.findNow kind k ms (n + 1) := by simp [Instr.findNow, hb]
      have hne : k ≠ e.key := fun e' => by have := hbi.2 e'; cases this
      rcases findNow_spec ms (n + 1) (fun m hm => h m (by simp [hm])) with ⟨h1, h2⟩ | ⟨i, m, h1, h2, h3⟩
      · refine .inl ⟨by rw [hf]; exact h1, fun m hm => ?_⟩
        rcases List.mem_cons.1 hm with rfl | hm
        · exact hne
        · exact h2 m hm
      · exact .inr ⟨i + 1, m, by simpa using h1, h2, by rw [hf, h3, Nat.add_assoc, Nat.add_comm 1 i]⟩
theorem keyT_some {t : TypeId} {k : Value} (TB : TbOk P tb) (h : keyT tb.ty t k = true) :
    ∃ d, P.underlying t = some d ∧ (∀ w, (underlying t).run P w = .ok d w) ∧ ((∃ kd kk a, d = .int kd ∧ k = .int kk a) ∨ ∃ a, d = .string ∧ k = .string a) := by
  unfold keyT at h
  split at h
  · rename_i ti hti
    obtain ⟨d, m1, u1, r1⟩ := (TB.ty _ _ hti).run_underlying
    refine ⟨d, u1, r1, ?_⟩
    unfold keyFit at h
    split at h
    · rename_i kd kk a hd
      rw [hd] at m1
      cases d <;> simp [TDOk] at m1
      exact .inl ⟨_, _, _, rfl, rfl⟩
    · rename_i a hd
      rw [hd] at m1
      cases d <;> simp [TDOk] at m1
      exact .inr ⟨_, rfl, rfl⟩
    · cases h
  · cases h
theorem keyT_check {t : TypeId} {k : Value} (TB : TbOk P tb) (h : keyT tb.ty t k = true) (ι : Io) (b : Bool) (w : World) : (Instr.checkKey b 10000 t (conc ι k)).run P w = .ok () w := by
  obtain ⟨d, _, r1, h1⟩ := keyT_some TB h
  have key : ∀ n, (Instr.checkKey b (n + 1) t (conc ι k)).run P w = .ok () w := by
    intro n
    rcases h1 with ⟨kd, kk, a, rfl, rfl⟩ | ⟨a, rfl, rfl⟩ <;> simp [Instr.checkKey, r1, conc]
  exact key 9999
theorem sameNow_of {d : TypeDesc} {k x : Value} {b : Bool} (h1 : (∃ kd kk a, d = .int kd ∧ k = .int kk a) ∨ ∃ a, d = .string ∧ k = .string a) (h : keyEq k x = some b) : Instr.sameNow d k x = some b := by
  rcases keyEq_some h with ⟨k1, x1, y1, rfl, rfl, rfl⟩ | ⟨x1, y1, rfl, rfl, rfl⟩
  · rcases h1 with ⟨kd, kk, a, rfl, e⟩ | ⟨a, rfl, e⟩
    · cases e; simp [Instr.sameNow]
    · cases e
  · rcases h1 with ⟨kd, kk, a, rfl, e⟩ | ⟨a, rfl, e⟩
    · cases e
    · cases e; simp [Instr.sameNow]
theorem findKey_run (TB : TbOk P tb) {t : TypeId} {k : Value} (hk : keyT tb.ty t k = true) {es : List (Value × Value)} (hes : KeysOk es) {r : Option Value} (hf : findA k es = some r) {ι : Io} {ms : Array MapEntry}
    (hp : (ms.toList.map (fun m => (m.key, m.val))).Perm (es.map (pairC ι))) (w : World) :
    conc ι k = k ∧ ((r = none ∧ (∀ m ∈ ms.toList, k ≠ m.key) ∧ (Instr.findKey t (conc ι k) ms.toList).run P w = .ok none w) ∨
      ∃ i m v, r = some v ∧ ms.toList[i]? = some m ∧ m.key = k ∧ m.val = conc ι v ∧ (Instr.findKey t (conc ι k) ms.toList).run P w = .ok (some (i, conc ι v)) w) := by
  obtain ⟨d, u1, r1, h1⟩ := keyT_some TB hk
  have hck : conc ι k = k := by rcases h1 with ⟨kd, kk, a, rfl, rfl⟩ | ⟨a, rfl, rfl⟩ <;> simp [conc]
  refine ⟨hck, ?_⟩
  rw [hck]
  obtain ⟨f1, f2⟩ := findA_some hf hes
  have hmem : ∀ m ∈ ms.toList, ∃ p ∈ es, m.key = p.1 ∧ m.val = conc ι p.2 := by
    intro m hm
    have h2 : (m.key, m.val) ∈ es.map (pairC ι) := hp.mem_iff.1 (List.mem_map_of_mem (f := fun m => (m.key, m.val)) hm)
    obtain ⟨p, hp1, hp2⟩ := List.mem_map.1 h2
    obtain ⟨b, hb⟩ := f1 p hp1
    unfold pairC at hp2
    simp only [Prod.mk.injEq] at hp2
    exact ⟨p, hp1, by rw [← hp2.1, (keyEq_conc hb ι).1], hp2.2.symm⟩
  have hnow : ∀ m ∈ ms.toList, ∃ b, Instr.sameNow d k m.key = some b ∧ (b = true ↔ k = m.key) := by
    intro m hm
    obtain ⟨p, hp1, hp2, _⟩ := hmem m hm
    obtain ⟨b, hb⟩ := f1 p hp1
    rw [hp2]
    exact ⟨b, sameNow_of h1 hb, keyEq_iff hb⟩
  rcases findNow_spec ms.toList 0 hnow with ⟨g1, g2⟩ | ⟨i, m, g1, g2, g3⟩
  · left
    refine ⟨?_, g2, by simp [Instr.findKey, r1, g1]⟩
    rcases f2 with ⟨hr, _⟩ | ⟨p, hp1, hp2, hp3⟩
    · exact hr
    · exfalso
      have h2 : pairC ι p ∈ ms.toList.map (fun m => (m.key, m.val)) := hp.mem_iff.2 (List.mem_map_of_mem hp1)
      obtain ⟨m, hm1, hm2⟩ := List.mem_map.1 h2
      obtain ⟨b, hb⟩ := f1 p hp1
      unfold pairC at hm2
      simp only [Prod.mk.injEq] at hm2
      exact g2 m hm1 (by rw [hm2.1, (keyEq_conc hb ι).1]; exact hp2)
  · right
    have hm : m ∈ ms.toList := List.mem_of_getElem? g1
    obtain ⟨p, hp1, hp2, hp3⟩ := hmem m hm
    rcases f2 with ⟨_, hno⟩ | ⟨q, hq1, hq2, hq3⟩
    · exact absurd (g2.trans hp2) (hno p hp1)
    · have : p = q := keys_apart hes hp1 hq1 (by rw [← hp2, ← g2, hq2])
      subst this
      refine ⟨i, m, p.2, hq3, g1, g2.symm, hp3, ?_⟩
      simp only [Nat.zero_add] at g3
      simp [Instr.findKey, r1, g3, hp3]
theorem run_getObj_at {w : World} {r : Nat} {o : Obj} (h : w.heap[r]? = some o) (hn : ∀ c e f, o ≠ .cells c e f) : (getObj r).run P w = .ok o w := by
  cases o with
  | cells c e f => exact absurd rfl (hn c e f)
  | _ => simp [getObj, Sem.run, h]
theorem run_setObj_at {w : World} {r : Nat} {o : Obj} (o' : Obj) (h : w.heap[r]? = some o) (hn : ∀ c e f, o ≠ .cells c e f) :
    (setObj r o').run P w = .ok () { w with heap := w.heap.setIfInBounds r o' } ∧ Wr w { w with heap := w.heap.setIfInBounds r o' } r o' := by
  refine ⟨?_, rfl, rfl, rfl, by simp, ?_, ?_⟩
  · cases o with
    | cells c e f => exact absurd rfl (hn c e f)
    | _ => simp [setObj, Sem.run, h]
  · obtain ⟨hlt, _⟩ := Array.getElem?_eq_some_iff.1 h
    simp [hlt]
  · intro k hk
    simp [Array.getElem?_setIfInBounds, Ne.symm hk]
theorem lookup_h (TB : TbOk P tb) (s : St) (t : TypeId) (x i : Value) (ok : Bool) : QH P tb s (ptrB x) (fun D => inD D x ∧ inD D i) (fun ι => Instr.lookup t (conc ι x) (conc ι i) ok) (lookupA tb.ty s x i ok (tb.ty.get t)) := by
  cases ht : tb.ty.get t with
  | none => exact .none
  | some ti =>
    intro r s' h
    obtain ⟨d, m1, _, r1⟩ := (TB.ty _ _ ht).run_underlying
    unfold lookupA at h
    simp only at h
    split at h
    · rename_i kt et hd
      rw [hd] at m1
      cases d <;> simp [TDOk] at m1
      obtain ⟨rfl, rfl⟩ := m1
      rename_i kt et hu
      cases hk : keyT tb.ty kt i with
      | false => rw [hk] at h; cases h
      | true =>
        rw [hk] at h
        simp only [cond_true] at h
        split at h
        · cases h
        · rename_i te hte
          have KE := TB.ty _ _ hte
          have fin : ∀ {o : Option (Option Value)} {r : AR} {s' : St}, foundA s ok te.zero o = some (r, s') → ∃ q, o = some q ∧ s' = s ∧ r = .val (bif ok then .tuple #[q.getD te.zero, .bool q.isSome] else q.getD te.zero) := by
            intro o r s' h
            unfold foundA at h
            split at h
            · cases h; exact ⟨_, rfl, rfl, by simp⟩
            · cases h; exact ⟨_, rfl, rfl, by simp⟩
            · cases h
          have cz : ∀ ι, conc ι te.zero = te.zero := fun ι => conc_zero ι KE.zero
          split at h
          · obtain ⟨q, hq, rfl, rfl⟩ := fin h
            cases hq
            refine ⟨_, rfl, QSem.same fun ι g w G _ hx => ⟨?_, ?_⟩⟩
            · simp only [Instr.lookup, conc, Sem.run_bind, r1, Result.andThen_ok, Sem.run_pure, keyT_check TB hk]
              have hf : (Instr.findKey kt (conc ι i) (#[] : Array MapEntry).toList).run P w = .ok none w := by
                obtain ⟨dd, _, rr, _⟩ := keyT_some TB hk
                simp [Instr.findKey, rr, Instr.findNow]
              simp only [hf, Result.andThen_ok, Sem.run_bind, KE.run_zero, Sem.run_pure]
              cases ok <;> simp [conc, cz]
            · cases ok
              · exact inD_False KE.zero
              · simp only [cond_true, inD]; intro v hv; simp at hv; rcases hv with rfl | rfl
                · exact inD_False KE.zero
                · simp only [inD]
          · rename_i rr
            obtain ⟨q, hq, rfl, rfl⟩ := fin h
            refine ⟨_, rfl, QSem.same fun ι g w G hr hx => ?_⟩
            have hgr : g rr = s'.get rr := hr rr (by simp [ptrB])
            unfold findObj at hq
            split at hq
            · rename_i es hes
              rw [← hgr] at hes
              obtain ⟨ko, ms, clock, hh, hperm, hbo⟩ := G.obj _ _ hes
              have hcl := G.closed _ _ hes
              obtain ⟨hck, hfk⟩ := findKey_run TB hk ko hq hperm w
              have hget : (getObj (ι rr).block).run P w = .ok (.map ms clock) w := run_getObj_at hh (by simp)
              refine ⟨?_, ?_⟩
              · simp only [Instr.lookup, conc, Sem.run_bind, r1, Result.andThen_ok, hget, Sem.run_pure, keyT_check TB hk]
                rcases hfk with ⟨rfl, _, hf⟩ | ⟨j, m, v, rfl, _, _, _, hf⟩
                · simp only [hf, Result.andThen_ok, Sem.run_bind, KE.run_zero, Sem.run_pure]
                  cases ok <;> simp [conc, cz]
                · simp only [hf, Result.andThen_ok, Sem.run_bind, Sem.run_pure]
                  cases ok <;> simp [conc]
              · have hin : inD (roomy ι g) (q.getD te.zero) := by
                  obtain ⟨_, f2⟩ := findA_some hq ko
                  rcases f2 with ⟨rfl, _⟩ | ⟨p, hp1, _, rfl⟩
                  · exact inD_False KE.zero
                  · exact (hcl p hp1).2
                cases ok
                · exact hin
                · simp only [cond_true, inD]; intro v hv; simp at hv; rcases hv with rfl | rfl
                  · exact hin
                  · simp only [inD]
            · cases hq
          · cases h
    · cases h
end Go.Proofs.Ae
namespace Go.Proofs.Ae
variable {P : Program} {tb : Tb}
theorem tyD_head {T : Tr TI} {ats : List TypeId} {d : TD} (h : tyD T ats.head? = d) (hn : d ≠ .other) : ∃ t rest ti, ats = t :: rest ∧ T.get t = some ti ∧ ti.d = d := by
  cases ats with
  | nil => exact absurd h.symm hn
  | cons t rest =>
    obtain ⟨ti, h1, h2⟩ := tyD_some h hn
    exact ⟨t, rest, ti, rfl, h1, h2⟩
theorem und_of (TB : TbOk P tb) {t : TypeId} {ti : TI} (h : tb.ty.get t = some ti) : ∃ d, TDOk P d ti.d ∧ P.underlying t = some d ∧ ∀ w, (underlying t).run P w = .ok d w := (TB.ty _ _ h).run_underlying
theorem len_h (TB : TbOk P tb) (s : St) (ats : Array TypeId) (ty : TypeId) (x : Value) : QH P tb s (ptrB x) (fun D => inD D x) (fun ι => Builtin.len_ ats ty #[conc ι x]) (lenA s (tyD tb.ty ats.toList.head?) x) := by
  intro r s' h
  unfold lenA at h
  split at h
  · rename_i b hd
    cases h
    obtain ⟨t, rest, ti, ha, h1, h2⟩ := tyD_head hd (by simp)
    obtain ⟨d, m1, _, r1⟩ := und_of TB h1
    rw [h2] at m1
    cases d <;> simp [TDOk] at m1
    have ha0 : ats[0]? = some t := by rw [← Array.getElem?_toList, ha]; rfl
    refine ⟨_, rfl, QSem.same fun ι g w G _ _ => ⟨?_, by simp only [inD]⟩⟩
    have hsz : b.data.toList.length = b.size := by rw [Array.length_toList]; rfl
    simp [Builtin.len_, ha0, r1, conc, goInt, hsz]
  · rename_i n e _ hd
    cases h
    obtain ⟨t, rest, ti, ha, h1, h2⟩ := tyD_head hd (by simp)
    obtain ⟨d, m1, _, r1⟩ := und_of TB h1
    rw [h2] at m1
    cases d <;> simp [TDOk] at m1
    obtain ⟨rfl, rfl⟩ := m1
    have ha0 : ats[0]? = some t := by rw [← Array.getElem?_toList, ha]; rfl
    refine ⟨_, rfl, QSem.same fun ι g w G _ _ => ⟨?_, by simp only [inD]⟩⟩
    simp [Builtin.len_, ha0, r1, conc, goInt]
  · rename_i e a n c hd
    cases h
    obtain ⟨t, rest, ti, ha, h1, h2⟩ := tyD_head hd (by simp)
    obtain ⟨d, m1, _, r1⟩ := und_of TB h1
    rw [h2] at m1
    cases d <;> simp [TDOk] at m1
    have ha0 : ats[0]? = some t := by rw [← Array.getElem?_toList, ha]; rfl
    refine ⟨_, rfl, QSem.same fun ι g w G _ _ => ⟨?_, by simp only [inD]⟩⟩
    cases a <;> simp [Builtin.len_, ha0, r1, conc, goInt]
  · rename_i k e hd
    cases h
    obtain ⟨t, rest, ti, ha, h1, h2⟩ := tyD_head hd (by simp)
    obtain ⟨d, m1, _, r1⟩ := und_of TB h1
    rw [h2] at m1
    cases d <;> simp [TDOk] at m1
    have ha0 : ats[0]? = some t := by rw [← Array.getElem?_toList, ha]; rfl
    refine ⟨_, rfl, QSem.same fun ι g w G _ _ => ⟨?_, by simp only [inD]⟩⟩
    simp [Builtin.len_, ha0, r1, conc, goInt]
  · rename_i k e rr hd
    unfold lenObj at h
    split at h
    · rename_i es hes
      cases h
      obtain ⟨t, rest, ti, ha, h1, h2⟩ := tyD_head hd (by simp)
      obtain ⟨d, m1, _, r1⟩ := und_of TB h1
      rw [h2] at m1
      cases d <;> simp [TDOk] at m1
      have ha0 : ats[0]? = some t := by rw [← Array.getElem?_toList, ha]; rfl
      refine ⟨_, rfl, QSem.same fun ι g w G hr _ => ⟨?_, by simp only [inD]⟩⟩
      rw [← hr rr (by simp [ptrB])] at hes
      obtain ⟨ko, ms, clock, hh, hperm, hbo⟩ := G.obj _ _ hes
      have hlen : ms.size = es.length := by
        have := hperm.length_eq
        simpa using this
      have hget : (getObj (ι rr).block).run P w = .ok (.map ms clock) w := run_getObj_at hh (by simp)
      simp only [Builtin.len_, ha0, conc, Sem.run_bind, r1, Result.andThen_ok, hget]
      simp [goInt, hlen, r1, hget]
    · cases h
  · cases h
theorem head_some {T : Tr TI} {ats : Array TypeId} {te : TI} (h : elemA T ats.toList.head? = some te) : ∃ t ti e, ats[0]? = some t ∧ T.get t = some ti ∧ ti.d = .slice e ∧ T.get e = some te := by
  cases ha : ats.toList with
  | nil => rw [ha] at h; cases h
  | cons t rest =>
    rw [ha] at h
    obtain ⟨ti, e, h1, h2, h3⟩ := elemA_some h
    exact ⟨t, ti, e, by rw [← Array.getElem?_toList, ha]; rfl, h1, h2, h3⟩
theorem map_h (s : St) (t : TypeId) : QH P tb s [] (fun _ => True) (fun _ => Instr.makeMap t none) (some (.val (.map (some s.next)), s.alloc (.map []))) := by
  refine .val (QSem.new fun ι g w G _ _ hn => ⟨⟨w.heap.size, 0, 0⟩, w.alloc (.map #[] 0), ?_, ?_, ?_⟩)
  · simp only [Instr.makeMap, Sem.run_bind, run_newObj_alloc, Result.andThen_ok, Sem.run_pure, conc, upI_self]
  · refine Ext.alloc G hn _ _ _ [] (fun p hp => by cases hp) rfl rfl rfl (by show w.heap.size ≤ (w.heap.push _).size; simp) (fun b hb => ?_) (.inr rfl) ⟨List.Pairwise.nil, #[], 0, ?_, by simp, by simp [BornOk]⟩
    · show (w.heap.push _)[b]? = w.heap[b]?
      rw [Array.getElem?_push, if_neg (by omega)]
    · show (w.heap.push _)[w.heap.size]? = _
      rw [Array.getElem?_push_size]
  · simp only [inD]; exact ⟨hdom_of (hset_self _ _ _), Nat.zero_le _⟩
theorem func_h (s : St) (f : FuncId) (first cap : List Value) : QH P tb s [] (fun D => (∀ x ∈ first, inD D x) ∧ ∀ x ∈ cap, inD D x) (fun ι => Instr.makeFunc (.func f) (first.map (conc ι)).toArray (cap.map (conc ι)).toArray)
    (some (.val (.func (.func f) first.toArray cap.toArray), s)) := by
  refine .val (QSem.same fun ι g w G _ hx => ⟨by simp [Instr.makeFunc, conc, fnC], ?_⟩)
  simp only [inD]
  refine ⟨fun l e => (by cases e), fun v hv => hx.1 v (by simpa using hv), fun v hv => hx.2 v (by simpa using hv)⟩
theorem builtin_q (TB : TbOk P tb) (s : St) (b : Builtin) (hb : quietB b = true) (ats : Array TypeId) (ty : TypeId) (args : List Value) :
    ∀ r s', builtinA tb.ty s b ats.toList args = some (r, s') → ∃ v X, r = .val v ∧ QSem P tb s s' (match args with | [x] => ptrB x | _ => []) (fun D => ∀ x ∈ args, inD D x) X v ∧
      ∀ ι consts, builtin b ats ty consts (args.map (conc ι)).toArray = (do pure (.value (← X ι))) := by
  intro r s' h
  unfold builtinA at h
  cases b <;> simp [quietB] at hb <;> simp only at h
  case cap =>
    split at h
    · rename_i a n c
      cases hc : Nat.ble cap0 c with
      | true => rw [hc] at h; cases h
      | false =>
        rw [hc] at h
        simp only [cond_false] at h
        split at h
        · rename_i e hd
          cases h
          obtain ⟨t, rest, ti, ha, h1, h2⟩ := tyD_head hd (by simp)
          obtain ⟨d, m1, _, r1⟩ := und_of TB h1
          rw [h2] at m1
          cases d <;> simp [TDOk] at m1
          have ha0 : ats[0]? = some t := by rw [← Array.getElem?_toList, ha]; rfl
          have hlt : c < cap0 := Nat.lt_of_not_le fun hn => by rw [Nat.ble_eq_true_of_le hn] at hc; cases hc
          refine ⟨_, fun ι => Builtin.cap_ ats ty #[conc ι (.slice a n c)], rfl, QSem.same fun ι g w G _ _ => ⟨?_, by simp only [inD]⟩, fun ι consts => by simp [builtin]⟩
          rw [conc_exact _ _ _ _ hlt]
          simp [Builtin.cap_, ha0, r1, conc, goInt]
        · cases h
    · cases h
  case len =>
    split at h
    · rename_i x
      obtain ⟨v, rfl, hq⟩ := len_h TB s ats ty x r s' h
      refine ⟨v, _, rfl, ⟨hq.1, fun ι g w G hr hd hn => hq.2 ι g w G hr (hd x (by simp)) hn⟩, fun ι consts => by simp [builtin]⟩
    · cases h
  case max =>
    split at h
    · rename_i k a k' b
      cases h
      refine ⟨_, fun ι => Builtin.max_ ats ty #[.int k a, .int k' b], rfl, QSem.same fun ι g w G _ _ => ⟨?_, by simp only [inD]⟩, fun ι consts => by simp [builtin, conc]⟩
      simp only [Builtin.max_, conc, maxI, ltI_eq]
      by_cases hlt : a < b <;> simp [Builtin.max2, hlt]
    · cases h
  case min =>
    split at h
    · rename_i k a k' b
      cases h
      refine ⟨_, fun ι => Builtin.min_ ats ty #[.int k a, .int k' b], rfl, QSem.same fun ι g w G _ _ => ⟨?_, by simp only [inD]⟩, fun ι consts => by simp [builtin, conc]⟩
      simp only [Builtin.min_, conc, minI, ltI_eq]
      by_cases hlt : b < a <;> simp [Builtin.min2, hlt]
    · cases h
end Go.Proofs.Ae
namespace Go.Proofs.Ae
variable {P : Program} {tb : Tb}
def RhoOk (ι : Io) (D : Nat → Nat → Prop) (tm : Tr Value) (ρ : Operand → Value) (xs : List Operand) : Prop := ∀ x ∈ xs, ρ x = conc ι (evO tm x) ∧ inD D (evO tm x)
def QOp (P : Program) (tb : Tb) (o : Oper) (s : St) (tm : Tr Value) (s' : St) (v : Value) : Prop :=
  (s' = s ∨ ∃ ob, s' = s.alloc ob) ∧
  ∀ ι g w ρ, Good tb ι g w → (∀ i ∈ readsA tm o.op, g i = s.get i) → RhoOk ι (roomy ι g) tm ρ o.op.operands.toList → ((∃ ob, s' = s.alloc ob) → g s.next = none) →
    ∃ ι' g' w', (execOp ρ o).run P w = .ok (.value (conc ι' v)) w' ∧ Ext tb ι g w ι' g' w' [] ∧ inD (roomy ι' g') v ∧ ((s' = s ∧ g' = g) ∨ ∃ ob, s' = s.alloc ob ∧ g' = hset g s.next ob)
theorem QSem.op {o : Oper} {s s' : St} {tm : Tr Value} {rd : List Nat} {D : (Nat → Nat → Prop) → Prop} {X : Io → Sem Value} {v : Value} (h : QSem P tb s s' rd D X v) (hrd : ∀ i ∈ rd, i ∈ readsA tm o.op)
    (hD : ∀ ι d ρ, RhoOk ι d tm ρ o.op.operands.toList → D d ∧ execOp ρ o = (do pure (.value (← X ι)))) : QOp P tb o s tm s' v :=
  ⟨h.1, fun ι g w ρ G hr hp hn => by
    obtain ⟨d1, d2⟩ := hD ι _ ρ hp
    obtain ⟨ι', g', w', h1, h2, h3, h4⟩ := h.2 ι g w G (fun i hi => hr i (hrd i hi)) d1 hn
    exact ⟨ι', g', w', by rw [d2]; simp only [Sem.run_bind, h1, Result.andThen_ok, Sem.run_pure], h2, h3, h4⟩⟩
theorem QH.op {o : Oper} {s s' : St} {tm : Tr Value} {rd : List Nat} {D : (Nat → Nat → Prop) → Prop} {X : Io → Sem Value} {ro : RO} {r : AR} (h : QH P tb s rd D X ro) (e : ro = some (r, s')) (hrd : ∀ i ∈ rd, i ∈ readsA tm o.op)
    (hD : ∀ ι d ρ, RhoOk ι d tm ρ o.op.operands.toList → D d ∧ execOp ρ o = (do pure (.value (← X ι)))) : ∃ v, r = .val v ∧ QOp P tb o s tm s' v := by
  obtain ⟨v, h1, h2⟩ := h r s' e
  exact ⟨v, h1, h2.op hrd hD⟩
theorem optO_map (tm : Tr Value) {ι : Io} {d : Nat → Nat → Prop} {ρ : Operand → Value} {o : Option Operand} (h : ∀ x ∈ o.toArray, ρ x = conc ι (evO tm x) ∧ inD d (evO tm x)) : o.map ρ = (optO tm o).map (conc ι) := by
  cases o with
  | none => rfl
  | some x => simp [optO, (h x (by simp)).1]
theorem quiet_op (TB : TbOk P tb) {o : Oper} {s s' : St} {tm : Tr Value} {r : AR} (hq : effB o.op = false) (hc : ∀ a b x t u, o.op = .convert a b x → ¬ (tyD tb.ty (some a) = .slice t ∧ tyD tb.ty (some b) = .slice u))
    (h : opA tb.ty s tm o.op = some (r, s')) : ∃ v, r = .val v ∧ QOp P tb o s tm s' v := by
  unfold opA at h
  cases hop : o.op <;> rw [hop] at h hq <;> try (simp [effB] at hq; done)
  case move x =>
    refine QH.op (D := fun d => inD d (evO tm x)) (rd := []) (X := fun ι => pure (conc ι (evO tm x))) (.val (QSem.same fun ι g w G _ hx => ⟨rfl, hx⟩)) h (by simp) fun ι d ρ hp => ?_
    rw [hop] at hp
    obtain ⟨h1, h2⟩ := hp x (by simp [Op.operands])
    exact ⟨h2, by simp [execOp, hop, h1]⟩
  case assign x =>
    refine QH.op (D := fun d => inD d (evO tm x)) (rd := []) (X := fun ι => pure (conc ι (evO tm x))) (.val (QSem.same fun ι g w G _ hx => ⟨rfl, hx⟩)) h (by simp) fun ι d ρ hp => ?_
    rw [hop] at hp
    obtain ⟨h1, h2⟩ := hp x (by simp [Op.operands])
    exact ⟨h2, by simp [execOp, hop, h1]⟩
  case pick c a b =>
    change pickA s (evO tm c) (evO tm a) (evO tm b) = some (r, s') at h
    unfold pickA at h
    split at h
    · rename_i hcv
      refine QH.op (D := fun d => inD d (evO tm a)) (rd := []) (X := fun ι => pure (conc ι (evO tm a))) (.val (QSem.same fun ι g w G _ hx => ⟨rfl, hx⟩)) h (by simp) fun ι d ρ hp => ?_
      rw [hop] at hp
      obtain ⟨h1, h2⟩ := hp a (by simp [Op.operands])
      have h3 := (hp c (by simp [Op.operands])).1
      rw [hcv] at h3
      exact ⟨h2, by simp [execOp, hop, h1, h3, conc, asBool]⟩
    · rename_i hcv
      refine QH.op (D := fun d => inD d (evO tm b)) (rd := []) (X := fun ι => pure (conc ι (evO tm b))) (.val (QSem.same fun ι g w G _ hx => ⟨rfl, hx⟩)) h (by simp) fun ι d ρ hp => ?_
      rw [hop] at hp
      obtain ⟨h1, h2⟩ := hp b (by simp [Op.operands])
      have h3 := (hp c (by simp [Op.operands])).1
      rw [hcv] at h3
      exact ⟨h2, by simp [execOp, hop, h1, h3, conc, asBool]⟩
    · cases h
  case alloc t => exact QH.op (alloc_h TB s t) h (by simp) fun ι d ρ hp => ⟨trivial, by simp [execOp, hop]⟩
  case box t x =>
    refine QH.op (box_h s t (evO tm x)) h (by simp) fun ι d ρ hp => ?_
    rw [hop] at hp
    obtain ⟨h1, h2⟩ := hp x (by simp [Op.operands])
    exact ⟨h2, by simp [execOp, hop, h1]⟩
  case build t ps =>
    refine QH.op (build_h TB s t (evP tm ps.toList)) h (by simp) fun ι d ρ hp => ?_
    rw [hop] at hp
    have hx : ∀ p ∈ ps.toList, ρ p.2 = conc ι (evO tm p.2) ∧ inD d (evO tm p.2) := fun p hm => hp p.2 (by simp [Op.operands]; exact ⟨p.1, by simpa using hm⟩)
    refine ⟨fun p hm => ?_, ?_⟩
    · rw [evP_eq] at hm
      obtain ⟨q, hq1, rfl⟩ := List.mem_map.1 hm
      exact (hx q hq1).2
    · have : ps.map (fun p => (p.1, ρ p.2)) = ((evP tm ps.toList).map fun p => (p.1, conc ι p.2)).toArray := by
        apply Array.ext'
        rw [evP_eq, List.map_map, Array.toList_map]
        exact List.map_congr_left fun p hm => by simp [(hx p hm).1]
      simp only [execOp, hop]
      rw [← this]
  case buildSlice t n ps =>
    refine QH.op (buildSlice_h TB s t n (evP tm ps.toList)) h (by simp) fun ι d ρ hp => ?_
    rw [hop] at hp
    have hx : ∀ p ∈ ps.toList, ρ p.2 = conc ι (evO tm p.2) ∧ inD d (evO tm p.2) := fun p hm => hp p.2 (by simp [Op.operands]; exact ⟨p.1, by simpa using hm⟩)
    refine ⟨fun p hm => ?_, ?_⟩
    · rw [evP_eq] at hm
      obtain ⟨q, hq1, rfl⟩ := List.mem_map.1 hm
      exact (hx q hq1).2
    · have : ps.map (fun p => (p.1, ρ p.2)) = ((evP tm ps.toList).map fun p => (p.1, conc ι p.2)).toArray := by
        apply Array.ext'
        rw [evP_eq, List.map_map, Array.toList_map]
        exact List.map_congr_left fun p hm => by simp [(hx p hm).1]
      simp only [execOp, hop]
      rw [← this]
  case load t a =>
    refine QH.op (load_h TB s t (evO tm a)) h (by rw [hop]; simp [readsA]) fun ι d ρ hp => ?_
    rw [hop] at hp
    obtain ⟨h1, h2⟩ := hp a (by simp [Op.operands])
    exact ⟨h2, by simp [execOp, hop, h1]⟩
  case nilCheck x =>
    refine QH.op (nil_h s (evO tm x)) h (by simp) fun ι d ρ hp => ?_
    rw [hop] at hp
    obtain ⟨h1, h2⟩ := hp x (by simp [Op.operands])
    refine ⟨h2, ?_⟩
    change nilA s (evO tm x) = some (r, s') at h
    unfold nilA at h
    split at h
    · rename_i hx; simp [execOp, hop, h1, hx, conc]
    · rename_i hx; simp [execOp, hop, h1, hx, conc, fnC]
    · rename_i hx; simp [execOp, hop, h1, hx, conc, fnC]
    · cases h
  case binOp op t x y yt =>
    refine QH.op (bin_h TB s op t x y (evO tm x) (evO tm y)) h (by rw [hop]; simp [readsA]) fun ι d ρ hp => ?_
    rw [hop] at hp
    obtain ⟨h1, _⟩ := hp x (by simp [Op.operands])
    obtain ⟨h2, _⟩ := hp y (by simp [Op.operands])
    exact ⟨trivial, by simp [execOp, hop, h1, h2]⟩
  case unOp op t x =>
    refine QH.op (un_h s op (evO tm x)) h (by simp) fun ι d ρ hp => ?_
    rw [hop] at hp
    obtain ⟨h1, h2⟩ := hp x (by simp [Op.operands])
    exact ⟨trivial, by simp [execOp, hop, h1]⟩
  case convert a b x =>
    refine QH.op (conv_q TB s a b (evO tm x) (fun t u => hc a b x t u hop) (Nat.beq a b)) h (by rw [hop]; simp [readsA]) fun ι d ρ hp => ?_
    rw [hop] at hp
    obtain ⟨h1, h2⟩ := hp x (by simp [Op.operands])
    exact ⟨h2, by simp [execOp, hop, h1]⟩
  case makeInterface t x =>
    refine QH.op (iface_h TB s t (evO tm x)) h (by simp) fun ι d ρ hp => ?_
    rw [hop] at hp
    obtain ⟨h1, h2⟩ := hp x (by simp [Op.operands])
    exact ⟨h2, by simp [execOp, hop, h1]⟩
  case makeFunc fn first cap =>
    change mkFuncA tm s fn first.toList cap.toList = some (r, s') at h
    unfold mkFuncA at h
    split at h
    · rename_i f
      refine QH.op (func_h s f (evL tm first.toList) (evL tm cap.toList)) h (by simp) fun ι d ρ hp => ?_
      rw [hop] at hp
      have hx : ∀ x ∈ first.toList, ρ x = conc ι (evO tm x) ∧ inD d (evO tm x) := fun x hm => hp x (by simp [Op.operands]; exact .inl (by simpa using hm))
      have hy : ∀ x ∈ cap.toList, ρ x = conc ι (evO tm x) ∧ inD d (evO tm x) := fun x hm => hp x (by simp [Op.operands]; exact .inr (by simpa using hm))
      refine ⟨⟨fun x hm => ?_, fun x hm => ?_⟩, ?_⟩
      · rw [evL_eq] at hm; obtain ⟨q, hq1, rfl⟩ := List.mem_map.1 hm; exact (hx q hq1).2
      · rw [evL_eq] at hm; obtain ⟨q, hq1, rfl⟩ := List.mem_map.1 hm; exact (hy q hq1).2
      · have e1 : first.map ρ = ((evL tm first.toList).map (conc ι)).toArray := by
          apply Array.ext'
          rw [evL_eq, List.map_map, Array.toList_map]
          exact List.map_congr_left fun p hm => by simp [(hx p hm).1]
        have e2 : cap.map ρ = ((evL tm cap.toList).map (conc ι)).toArray := by
          apply Array.ext'
          rw [evL_eq, List.map_map, Array.toList_map]
          exact List.map_congr_left fun p hm => by simp [(hy p hm).1]
        simp only [execOp, hop]
        rw [e1, e2]
    · cases h
  case makeMap t rr =>
    cases rr with
    | some q => cases h
    | none => exact QH.op (map_h s t) h (by simp) fun ι d ρ hp => ⟨trivial, by simp [execOp, hop]⟩
  case makeSlice t l c =>
    refine QH.op (mkSlice_h TB s t (evO tm l) (evO tm c)) h (by simp) fun ι d ρ hp => ?_
    rw [hop] at hp
    obtain ⟨h1, _⟩ := hp l (by simp [Op.operands])
    obtain ⟨h2, _⟩ := hp c (by simp [Op.operands])
    exact ⟨trivial, by simp [execOp, hop, h1, h2]⟩
  case slice t x lo hi mx =>
    refine QH.op (slice_h TB s t (evO tm x) (optO tm lo) (optO tm hi) (optO tm mx)) h (by simp) fun ι d ρ hp => ?_
    rw [hop] at hp
    obtain ⟨h1, h2⟩ := hp x (by simp [Op.operands])
    have e1 := optO_map tm (o := lo) (ρ := ρ) (ι := ι) (d := d) fun y hy => hp y (by simp [Op.operands]; cases lo <;> simp_all)
    have e2 := optO_map tm (o := hi) (ρ := ρ) (ι := ι) (d := d) fun y hy => hp y (by simp [Op.operands]; cases hi <;> simp_all)
    have e3 := optO_map tm (o := mx) (ρ := ρ) (ι := ι) (d := d) fun y hy => hp y (by simp [Op.operands]; cases mx <;> simp_all)
    exact ⟨h2, by simp only [execOp, hop, h1, e1, e2, e3]⟩
  case fieldAddr t x f =>
    refine QH.op (fieldAddr_h TB s t (evO tm x) f) h (by simp) fun ι d ρ hp => ?_
    rw [hop] at hp
    obtain ⟨h1, h2⟩ := hp x (by simp [Op.operands])
    exact ⟨h2, by simp [execOp, hop, h1]⟩
  case field t x f =>
    refine QH.op (field_h TB s t (evO tm x) f) h (by simp) fun ι d ρ hp => ?_
    rw [hop] at hp
    obtain ⟨h1, h2⟩ := hp x (by simp [Op.operands])
    exact ⟨h2, by simp [execOp, hop, h1]⟩
  case indexAddr t x i =>
    refine QH.op (indexAddr_h TB s t (evO tm x) (evO tm i)) h (by simp) fun ι d ρ hp => ?_
    rw [hop] at hp
    obtain ⟨h1, h2⟩ := hp x (by simp [Op.operands])
    obtain ⟨h3, _⟩ := hp i (by simp [Op.operands])
    exact ⟨h2, by simp [execOp, hop, h1, h3]⟩
  case index t x i =>
    refine QH.op (index_h TB s t (evO tm x) (evO tm i)) h (by simp) fun ι d ρ hp => ?_
    rw [hop] at hp
    obtain ⟨h1, h2⟩ := hp x (by simp [Op.operands])
    obtain ⟨h3, _⟩ := hp i (by simp [Op.operands])
    exact ⟨h2, by simp [execOp, hop, h1, h3]⟩
  case lookup t x i ok =>
    refine QH.op (lookup_h TB s t (evO tm x) (evO tm i) ok) h (by rw [hop]; simp [readsA]) fun ι d ρ hp => ?_
    rw [hop] at hp
    obtain ⟨h1, h2⟩ := hp x (by simp [Op.operands])
    obtain ⟨h3, h4⟩ := hp i (by simp [Op.operands])
    exact ⟨⟨h2, h4⟩, by simp [execOp, hop, h1, h3]⟩
  case typeAssert x u t ok =>
    refine QH.op (assert_h TB s u t ok (evO tm x)) h (by simp) fun ι d ρ hp => ?_
    rw [hop] at hp
    obtain ⟨h1, h2⟩ := hp x (by simp [Op.operands])
    exact ⟨h2, by simp [execOp, hop, h1]⟩
  case extract x i =>
    refine QH.op (extract_h s (evO tm x) i) h (by simp) fun ι d ρ hp => ?_
    rw [hop] at hp
    obtain ⟨h1, h2⟩ := hp x (by simp [Op.operands])
    exact ⟨h2, by simp [execOp, hop, h1]⟩
  case call c =>
    obtain ⟨callee, args, ats⟩ := c
    cases callee with
    | builtin b =>
      have hb : quietB b = true := by simpa [effB] using hq
      change builtinA tb.ty s b ats.toList (evL tm args.toList) = some (r, s') at h
      obtain ⟨v, X, rfl, hv, hX⟩ := builtin_q TB s b hb ats o.type (evL tm args.toList) r s' h
      refine ⟨v, rfl, hv.op (fun i hi => by
        rw [hop]
        show i ∈ (match evL tm args.toList with | [x] => ptrB x | _ => [])
        revert hi
        cases evL tm args.toList with
        | nil => exact id
        | cons x l => cases l <;> exact id) fun ι d ρ hp => ?_⟩
      rw [hop] at hp
      have hx : ∀ x ∈ args.toList, ρ x = conc ι (evO tm x) ∧ inD d (evO tm x) := fun x hm => hp x (by simp [Op.operands, Call.operands]; simpa using hm)
      refine ⟨fun x hm => ?_, ?_⟩
      · rw [evL_eq] at hm; obtain ⟨q, hq1, rfl⟩ := List.mem_map.1 hm; exact (hx q hq1).2
      · have e1 : args.map ρ = ((evL tm args.toList).map (conc ι)).toArray := by
          apply Array.ext'
          rw [evL_eq, List.map_map, Array.toList_map]
          exact List.map_congr_left fun p hm => by simp [(hx p hm).1]
        have hX2 := hX ι
        rw [← e1] at hX2
        simp only [execOp, hop, resolve]
        exact hX2 _
    | invoke x n => simp [effB] at hq
    | value f => simp [effB] at hq
  all_goals first | (cases h; done) | skip
end Go.Proofs.Ae
namespace Go.Proofs.Ae
variable {P : Program} {tb : Tb}
theorem storeAt_some {s s' : St} {a : Addr} {vs : List Value} (h : storeAt s a vs = some s') :
    ∃ c m, a.spot = none ∧ s.get a.block = some (.cells c m) ∧ m ≠ .ro ∧ a.off + vs.length ≤ c.length ∧ (∀ v ∈ vs, oneV v = true) ∧ s' = s.upd a.block (.cells (putAt c a.off vs) m) := by
  unfold storeAt at h
  split at h
  · cases h
  · rename_i hsp
    unfold storeO at h
    split at h
    · rename_i c m hg
      split at h
      · cases h
      · rename_i hm
        cases hb : allOne vs with
        | false => rw [hb] at h; cases h
        | true =>
          rw [hb] at h
          simp only [cond_true] at h
          split at h
          · rename_i c' hc
            cases h
            obtain ⟨rfl, hle⟩ := putX_some hc
            exact ⟨c, m, hsp, hg, fun e => hm e, hle, allOne_spec hb, rfl⟩
          · cases h
    · cases h
theorem storeAt_ev {s s' : St} {a : Addr} {vs : List Value} (h : storeAt s a vs = some s') : Ev s s' := by
  obtain ⟨c, m, h1, h2, h3, h4, h5, rfl⟩ := storeAt_some h
  exact Ev.upd _ h2
theorem storeAt_spec {ι : Io} {s s' : St} {w : World} (G : Good tb ι s.get w) {a : Addr} {vs : List Value} (h : storeAt s a vs = some s') (hio : ∀ v ∈ vs, inD (roomy ι s.get) v) :
    ∃ w', (storeCells (addrC ι a) (vs.map (conc ι))).run P w = .ok () w' ∧ Ext tb ι s.get w ι s'.get w' s'.mods := by
  obtain ⟨c, m, hsp, hg, hm, hle, h1, rfl⟩ := storeAt_some h
  have hins : ∀ v ∈ putAt c a.off vs, inD (roomy ι s.get) v := by
    intro v hv
    rcases mem_putAt _ _ _ _ hv with hv | hv
    · exact G.closed _ _ hg v hv
    · exact hio v hv
  have hone : ∀ v ∈ vs.map (conc ι), v.oneCell' = true := fun v hv => by
    obtain ⟨u, hu, rfl⟩ := List.mem_map.1 hv
    rw [← oneV_eq, oneV_conc]; exact h1 u hu
  rw [St.get_upd]
  cases m with
  | ro => exact absurd rfl hm
  | exact =>
    obtain ⟨k1, k2, e, fz, k3, k4⟩ := G.obj _ _ hg
    obtain ⟨w', hr, W⟩ := run_storeCells_wr (P := P) (ι a.block).block a.off e fz (vs.map (conc ι)) 0 (c.map (conc ι)) w k3 (by simpa using hle) (.inl (Nat.le_of_eq k4.symm)) hone
    have haddr : addrC ι a = ⟨(ι a.block).block, a.off, none⟩ := by simp [addrC, k1, hsp]
    have hmap : putAt (c.map (conc ι)) (a.off + 0) (vs.map (conc ι)) = (putAt c a.off vs).map (conc ι) := by rw [map_putAt]; rfl
    rw [hmap] at W
    exact ⟨w', by rw [haddr]; exact hr, Ext.write G (by simp) hg rfl rfl hins W ⟨k1, by rw [length_putAt]; exact k2, e, fz, W.here, k4⟩⟩
  | grow =>
    obtain ⟨k1, rest, e, fz, k3, k5, k4⟩ := G.obj _ _ hg
    obtain ⟨w', hr, W⟩ := run_storeCells_wr (P := P) (ι a.block).block a.off e fz (vs.map (conc ι)) 0 (c.map (conc ι) ++ rest) w k3 (by simp; omega) (by simpa using k4) hone
    have haddr : addrC ι a = ⟨(ι a.block).block, a.off, none⟩ := by simp [addrC, k1, hsp]
    have hmap : putAt (c.map (conc ι) ++ rest) (a.off + 0) (vs.map (conc ι)) = (putAt c a.off vs).map (conc ι) ++ rest := by
      rw [putAt_append _ _ _ _ (by simpa using hle), map_putAt]; rfl
    rw [hmap] at W
    exact ⟨w', by rw [haddr]; exact hr, Ext.write G (by simp) hg rfl rfl hins W ⟨k1, rest, e, fz, W.here, by rw [length_putAt]; exact k5, by rw [length_putAt]; exact k4⟩⟩
def ESem (P : Program) (tb : Tb) (s s' : St) (args : List Value) (X : Io → Sem Value) (v : Value) : Prop :=
  (s.Ok → Ev s s') ∧ ∀ ι w, s.Ok → Good tb ι s.get w → (∀ x ∈ args, inD (roomy ι s.get) x) →
    ∃ ι' w', (X ι).run P w = .ok (conc ι' v) w' ∧ Ext tb ι s.get w ι' s'.get w' s'.mods ∧ inD (roomy ι' s'.get) v
def USem (P : Program) (tb : Tb) (s s' : St) (args : List Value) (X : Io → Sem Unit) : Prop :=
  (s.Ok → Ev s s') ∧ ∀ ι w, s.Ok → Good tb ι s.get w → (∀ x ∈ args, inD (roomy ι s.get) x) →
    ∃ ι' w', (X ι).run P w = .ok () w' ∧ Ext tb ι s.get w ι' s'.get w' s'.mods
theorem store_u (TB : TbOk P tb) {s s' : St} {t : TypeId} {a v : Value} {r : AR} (h : storeA s a v (tb.ty.get t) = some (r, s')) : r = .skip ∧ USem P tb s s' [a, v] (fun ι => Instr.storeAt t (conc ι a) (conc ι v)) := by
  cases ht : tb.ty.get t with
  | none => rw [ht] at h; cases h
  | some ti =>
    rw [ht] at h
    unfold storeA at h
    simp only at h
    split at h
    · rename_i a
      cases hb : Nat.beq v.cells.toList.length ti.size with
      | false => rw [hb] at h; cases h
      | true =>
        rw [hb] at h
        simp only [cond_true] at h
        obtain ⟨hs, rfl⟩ := skipO_some h
        have hsz := Nat.eq_of_beq_eq_true hb
        refine ⟨rfl, fun _ => storeAt_ev hs, fun ι w _ G hin => ?_⟩
        obtain ⟨w', h1, h2⟩ := storeAt_spec (P := P) G hs (inD_cells (hin v (by simp)))
        refine ⟨ι, w', ?_, h2⟩
        have hc : (conc ι v).cells.toList = v.cells.toList.map (conc ι) := by rw [cells_conc]; simp
        have hs2 : (conc ι v).cells.size = ti.size := by rw [← hsz, ← Array.length_toList, hc, List.length_map]
        simp only [Instr.storeAt, conc, Instr.sureAddr, Sem.run_bind, Sem.run_pure, Result.andThen_ok, storeVar, (TB.ty _ _ ht).run_sizeOf, hs2, ne_eq, not_true_eq_false, if_false, hc, h1]
    · cases h
end Go.Proofs.Ae
namespace Go.Proofs.Ae
variable {P : Program} {tb : Tb}
theorem keysOk_iff {es : List (Value × Value)} : KeysOk es ↔ (es.map Prod.fst).Pairwise fun a b => keyEq a b = some false := by
  unfold KeysOk
  rw [List.pairwise_map]
theorem setA_some {k v : Value} : ∀ {es es' : List (Value × Value)}, setA k v es = some es' → KeysOk es →
    (∀ p ∈ es, ∃ b, keyEq k p.1 = some b) ∧ ((findA k es = some none ∧ (∀ p ∈ es, k ≠ p.1) ∧ es' = es ++ [(k, v)]) ∨ ∃ l1 x l2, es = l1 ++ (k, x) :: l2 ∧ es' = l1 ++ (k, v) :: l2 ∧ findA k es = some (some x))
  | [], es', h, _ => by
    cases h
    refine ⟨fun p hp => ?_, .inl ⟨rfl, fun p hp => ?_, rfl⟩⟩ <;> cases hp
  | e :: es, es', h, hk => by
    obtain ⟨hk1, hk2⟩ := List.pairwise_cons.1 hk
    change (match keyEq k e.1 with
      | some true => some ((k, v) :: es)
      | some false => match setA k v es with
        | some r => some (e :: r)
        | none => none
      | none => none) = some es' at h
    have hf : findA k (e :: es) = (match keyEq k e.1 with
      | some true => some (some e.2)
      | some false => findA k es
      | none => none) := rfl
    split at h
    · rename_i he
      cases h
      have hke := (keyEq_iff he).1 rfl
      refine ⟨fun p hp => ?_, .inr ⟨[], e.2, es, ?_, rfl, by rw [hf, he]⟩⟩
      · rcases List.mem_cons.1 hp with rfl | hp
        · exact ⟨_, he⟩
        · exact keyEq_trans he (hk1 p hp)
      · rw [hke]; rfl
    · rename_i he
      split at h
      · rename_i q hq
        cases h
        obtain ⟨h1, h2⟩ := setA_some hq hk2
        refine ⟨fun p hp => ?_, ?_⟩
        · rcases List.mem_cons.1 hp with rfl | hp
          · exact ⟨_, he⟩
          · exact h1 p hp
        · rcases h2 with ⟨h3, h4, rfl⟩ | ⟨l1, x, l2, rfl, rfl, h5⟩
          · refine .inl ⟨by rw [hf, he]; exact h3, fun p hp => ?_, rfl⟩
            rcases List.mem_cons.1 hp with rfl | hp
            · intro e'; have := (keyEq_iff he).2 e'; cases this
            · exact h4 p hp
          · exact .inr ⟨e :: l1, x, l2, rfl, rfl, by rw [hf, he]; exact h5⟩
      · cases h
    · cases h
theorem delA_some {k : Value} : ∀ {es es' : List (Value × Value)}, delA k es = some es' → KeysOk es →
    (findA k es = some none ∧ es' = es) ∨ ∃ l1 x l2, es = l1 ++ (k, x) :: l2 ∧ es' = l1 ++ l2 ∧ findA k es = some (some x)
  | [], es', h, _ => by cases h; exact .inl ⟨rfl, rfl⟩
  | e :: es, es', h, hk => by
    obtain ⟨hk1, hk2⟩ := List.pairwise_cons.1 hk
    change (match keyEq k e.1 with
      | some true => some es
      | some false => match delA k es with
        | some r => some (e :: r)
        | none => none
      | none => none) = some es' at h
    have hf : findA k (e :: es) = (match keyEq k e.1 with
      | some true => some (some e.2)
      | some false => findA k es
      | none => none) := rfl
    split at h
    · rename_i he
      cases h
      have hke := (keyEq_iff he).1 rfl
      exact .inr ⟨[], e.2, es, by rw [hke]; rfl, rfl, by rw [hf, he]⟩
    · rename_i he
      split at h
      · rename_i q hq
        cases h
        rcases delA_some hq hk2 with ⟨h3, rfl⟩ | ⟨l1, x, l2, rfl, rfl, h5⟩
        · exact .inl ⟨by rw [hf, he]; exact h3, rfl⟩
        · exact .inr ⟨e :: l1, x, l2, rfl, rfl, by rw [hf, he]; exact h5⟩
      · cases h
    · cases h
theorem keysOk_set {l1 l2 : List (Value × Value)} {k x v : Value} (h : KeysOk (l1 ++ (k, x) :: l2)) : KeysOk (l1 ++ (k, v) :: l2) := by
  rw [keysOk_iff] at h ⊢
  simpa using h
theorem keysOk_del {l1 l2 : List (Value × Value)} {k x : Value} (h : KeysOk (l1 ++ (k, x) :: l2)) : KeysOk (l1 ++ l2) :=
  List.Pairwise.sublist (List.Sublist.append_left (List.sublist_cons_self _ _) _) h
theorem keysOk_push {es : List (Value × Value)} {k v : Value} (h : KeysOk es) (h1 : ∀ p ∈ es, ∃ b, keyEq k p.1 = some b) (h2 : ∀ p ∈ es, k ≠ p.1) : KeysOk (es ++ [(k, v)]) := by
  unfold KeysOk
  rw [List.pairwise_append]
  refine ⟨h, by simp, fun p hp q hq => ?_⟩
  simp only [List.mem_singleton] at hq
  subst hq
  obtain ⟨b, hb⟩ := h1 p hp
  cases b with
  | true => exact absurd ((keyEq_iff hb).1 rfl) (h2 p hp)
  | false => exact keyEq_symm hb
theorem born_modify (ms : Array MapEntry) (i : Nat) (k v : Value) : (ms.modify i fun e => { e with key := k, val := v }).toList.map (·.born) = ms.toList.map (·.born) := by
  rw [Array.toList_modify]
  refine List.ext_getElem? fun j => ?_
  simp only [List.getElem?_map, List.getElem?_modify]
  split
  · cases ms.toList[j]? <;> rfl
  · cases ms.toList[j]? <;> rfl
theorem perm_swap {α : Type} {a b c d : List α} {y : α} (z : α) (h : (a ++ y :: b).Perm (c ++ y :: d)) : (a ++ z :: b).Perm (c ++ z :: d) := by
  have h1 : (y :: (a ++ b)).Perm (y :: (c ++ d)) := List.perm_middle.symm.trans (h.trans List.perm_middle)
  exact List.perm_middle.trans ((h1.cons_inv.cons z).trans List.perm_middle.symm)
theorem perm_drop {α : Type} {a b c d : List α} {y : α} (h : (a ++ y :: b).Perm (c ++ y :: d)) : (a ++ b).Perm (c ++ d) := by
  have h1 : (y :: (a ++ b)).Perm (y :: (c ++ d)) := List.perm_middle.symm.trans (h.trans List.perm_middle)
  exact h1.cons_inv
theorem split_at {α : Type} {l : List α} {i : Nat} {m : α} (h : l[i]? = some m) : l = l.take i ++ m :: l.drop (i + 1) := by
  obtain ⟨hlt, hm⟩ := List.getElem?_eq_some_iff.1 h
  rw [← hm, ← List.drop_eq_getElem_cons hlt, List.take_append_drop]
theorem sameBits_key {k x : Value} {b : Bool} (h : keyEq k x = some b) : Instr.sameBits 10000 k k = true := by
  rcases keyEq_some h with ⟨k1, x1, y1, rfl, rfl, rfl⟩ | ⟨x1, y1, rfl, rfl, rfl⟩
  · simp [Instr.sameBits]
  · simp [Instr.sameBits, bytes_beq]
theorem mapUpd_u (TB : TbOk P tb) {s s' : St} {t : TypeId} {m k v : Value} {r : AR} (h : mapUpdA tb.ty s m k v (tb.ty.get t) = some (r, s')) :
    r = .skip ∧ USem P tb s s' [m, k, v] (fun ι => Instr.mapUpdate t (conc ι m) (conc ι k) (conc ι v)) := by
  cases ht : tb.ty.get t with
  | none => rw [ht] at h; cases h
  | some ti =>
    rw [ht] at h
    obtain ⟨d, m1, _, r1⟩ := (TB.ty _ _ ht).run_underlying
    unfold mapUpdA at h
    simp only at h
    split at h
    · rename_i kt0 et0 hd
      rw [hd] at m1
      cases d <;> simp [TDOk] at m1
      obtain ⟨rfl, rfl⟩ := m1
      rename_i kt et hu
      cases hk : keyT tb.ty kt k with
      | false => rw [hk] at h; cases h
      | true =>
        rw [hk] at h
        simp only [cond_true] at h
        split at h
        · rename_i rr
          unfold updObj at h
          split at h
          · rename_i es hes
            split at h
            · rename_i es' hes'
              cases h
              refine ⟨rfl, fun _ => Ev.upd _ hes, fun ι w _ G hin => ?_⟩
              obtain ⟨ko, ms, clock, hh, hperm, hbo⟩ := G.obj _ _ hes
              have hcl := G.closed _ _ hes
              obtain ⟨hcmp, hset⟩ := setA_some hes' ko
              have hget : (getObj (ι rr).block).run P w = .ok (.map ms clock) w := run_getObj_at hh (by simp)
              rw [St.get_upd]
              rcases hset with ⟨hf, hne, rfl⟩ | ⟨l1, x, l2, rfl, rfl, hf⟩
              · obtain ⟨hck, hfk⟩ := findKey_run TB hk ko hf hperm w
                rcases hfk with ⟨_, hno, hrun⟩ | ⟨_, _, _, hc, _⟩
                · obtain ⟨hsr, W⟩ := run_setObj_at (P := P) (.map (ms.push { key := conc ι k, val := conc ι v, born := clock }) (clock + 1)) hh (by simp)
                  refine ⟨ι, _, ?_, Ext.write G (by simp) hes rfl rfl ?_ W ⟨keysOk_push ko hcmp hne, _, _, W.here, ?_, hbo.push _ _⟩⟩
                  · simp only [Instr.mapUpdate, conc, Sem.run_bind, r1, Result.andThen_ok, hget, keyT_check TB hk, hrun, hsr]
                  · intro p hp
                    rcases List.mem_append.1 hp with hp | hp
                    · exact hcl p hp
                    · simp only [List.mem_singleton] at hp
                      subst hp
                      exact ⟨hin k (by simp), hin v (by simp)⟩
                  · simp only [Array.toList_push, List.map_append, List.map_cons, List.map_nil]
                    exact hperm.append_right _
                · cases hc
              · obtain ⟨hck, hfk⟩ := findKey_run TB hk ko hf hperm w
                rcases hfk with ⟨hc, _⟩ | ⟨i, m, v0, hc, hi, hmk, hmv, hrun⟩
                · cases hc
                · cases hc
                  have hkk : Instr.sameBits 10000 m.key (conc ι k) = true := by
                    rw [hck, hmk]
                    obtain ⟨b, hb⟩ := hcmp (k, x) (by simp)
                    exact sameBits_key hb
                  have hi' : ms[i]? = some m := by simpa using hi
                  obtain ⟨hsr, W⟩ := run_setObj_at (P := P) (.map (ms.modify i fun e => { e with key := conc ι k, val := conc ι v }) clock) hh (by simp)
                  refine ⟨ι, _, ?_, Ext.write G (by simp) hes rfl rfl ?_ W ⟨keysOk_set ko, _, _, W.here, ?_, hbo.of_map (born_modify _ _ _ _)⟩⟩
                  · simp only [Instr.mapUpdate, conc, Sem.run_bind, r1, Result.andThen_ok, hget, keyT_check TB hk, hrun, hi', Option.map_some, Option.getD_some, Instr.keyThatStays, hkk, if_true, Sem.run_pure, hsr]
                  · intro p hp
                    rcases List.mem_append.1 hp with hp | hp
                    · exact hcl p (by simp [hp])
                    · rcases List.mem_cons.1 hp with rfl | hp
                      · exact ⟨hin k (by simp), hin v (by simp)⟩
                      · exact hcl p (by simp [hp])
                  · have hsp := split_at hi
                    obtain ⟨hlt, hm⟩ := List.getElem?_eq_some_iff.1 hi
                    have hmod : (ms.modify i fun e => { e with key := conc ι k, val := conc ι v }).toList = ms.toList.take i ++ { m with key := conc ι k, val := conc ι v } :: ms.toList.drop (i + 1) := by
                      rw [Array.toList_modify, List.modify_eq_take_cons_drop hlt, hm]
                    rw [hmod]
                    rw [hsp] at hperm
                    simp only [List.map_append, List.map_cons] at hperm ⊢
                    have e1 : (m.key, m.val) = pairC ι (k, x) := by unfold pairC; rw [hmk, hmv, hck]
                    rw [e1] at hperm
                    exact perm_swap _ hperm
            · cases h
          · cases h
        · cases h
    · cases h
end Go.Proofs.Ae
namespace Go.Proofs.Ae
variable {P : Program} {tb : Tb}
theorem delete_e (TB : TbOk P tb) {s s' : St} {ats : Array TypeId} {ty : TypeId} {rr : Nat} {k : Value} {kt et : TypeId} {r : AR} (hd : tyD tb.ty ats.toList.head? = .map kt et) (hk : keyT tb.ty kt k = true)
    (h : delObj s rr k (s.get rr) = some (r, s')) : ∃ v, r = .val v ∧ ESem P tb s s' [.map (some rr), k] (fun ι => Builtin.delete_ ats ty #[conc ι (.map (some rr)), conc ι k]) v := by
  obtain ⟨t, rest, ti, ha, h1, h2⟩ := tyD_head hd (by simp)
  obtain ⟨d, m1, _, r1⟩ := und_of TB h1
  rw [h2] at m1
  cases d <;> simp [TDOk] at m1
  obtain ⟨rfl, rfl⟩ := m1
  have ha0 : ats[0]? = some t := by rw [← Array.getElem?_toList, ha]; rfl
  unfold delObj at h
  split at h
  · rename_i es hes
    split at h
    · rename_i es' hes'
      cases h
      refine ⟨_, rfl, fun _ => Ev.upd _ hes, fun ι w _ G hin => ?_⟩
      obtain ⟨ko, ms, clock, hh, hperm, hbo⟩ := G.obj _ _ hes
      have hcl := G.closed _ _ hes
      have hget : (getObj (ι rr).block).run P w = .ok (.map ms clock) w := run_getObj_at hh (by simp)
      rw [St.get_upd]
      rcases delA_some hes' ko with ⟨hf, rfl⟩ | ⟨l1, x, l2, rfl, rfl, hf⟩
      · obtain ⟨hck, hfk⟩ := findKey_run TB hk ko hf hperm w
        rcases hfk with ⟨_, hno, hrun⟩ | ⟨_, _, _, hc, _⟩
        · obtain ⟨hsr, W⟩ := run_setObj_at (P := P) (.map ms clock) hh (by simp)
          refine ⟨ι, _, ?_, Ext.write G (by simp) hes rfl rfl hcl W ⟨ko, _, _, W.here, hperm, hbo⟩, by simp [inD]⟩
          simp only [Builtin.delete_, ha0, conc]
          simp [r1, hget, keyT_check TB hk, hrun, hsr]
        · cases hc
      · obtain ⟨hck, hfk⟩ := findKey_run TB hk ko hf hperm w
        rcases hfk with ⟨hc, _⟩ | ⟨i, m, v0, hc, hi, hmk, hmv, hrun⟩
        · cases hc
        · cases hc
          obtain ⟨hsr, W⟩ := run_setObj_at (P := P) (.map (ms.eraseIdxIfInBounds i) clock) hh (by simp)
          refine ⟨ι, _, ?_, Ext.write G (by simp) hes rfl rfl ?_ W ⟨keysOk_del ko, _, _, W.here, ?_, hbo.of_sub (by rw [Array.toList_eraseIdxIfInBounds]; exact List.eraseIdx_sublist _ _)⟩, by simp [inD]⟩
          · simp only [Builtin.delete_, ha0, conc]
            simp [r1, hget, keyT_check TB hk, hrun, hsr]
          · intro p hp
            rcases List.mem_append.1 hp with hp | hp
            · exact hcl p (by simp [hp])
            · exact hcl p (by simp [hp])
          · have hsp := split_at hi
            obtain ⟨hlt, hm⟩ := List.getElem?_eq_some_iff.1 hi
            have her : (ms.eraseIdxIfInBounds i).toList = ms.toList.take i ++ ms.toList.drop (i + 1) := by
              rw [Array.toList_eraseIdxIfInBounds, List.eraseIdx_eq_take_drop_succ]
            rw [her]
            rw [hsp] at hperm
            simp only [List.map_append, List.map_cons] at hperm ⊢
            have e1 : (m.key, m.val) = pairC ι (k, x) := by unfold pairC; rw [hmk, hmv, hck]
            rw [e1] at hperm
            exact perm_drop hperm
    · cases h
  · cases h
theorem bytes_take (b : ByteArray) (n : Nat) (h : n ≤ b.size) : ((b.extract 0 n).data.map fun c => Value.int .u8 c.toNat).toList = (bytesV b.data.toList).take n := by
  rw [bytesV_eq, Array.toList_map, string_cut]
  simp [List.map_take]
theorem conc_bytes (ι : Io) (l : List Value) (h : ∀ v ∈ l, ∃ n : Int, v = .int .u8 n) : l.map (conc ι) = l := by
  refine (List.map_congr_left (g := fun v => v) fun v hv => ?_).trans (by simp)
  obtain ⟨n, rfl⟩ := h v hv
  simp [conc]
theorem copyTo_some {s s' : St} {n : Nat} {a : Option Addr} {o : Option (List Value)} {r : AR} (h : copyTo s n a o = some (r, s')) :
    ∃ xs, o = some xs ∧ r = .val (.int .i64 n) ∧ ((xs = [] ∧ s' = s) ∨ ∃ ad, a = some ad ∧ storeAt s ad xs = some s') := by
  unfold copyTo at h
  split at h
  · cases h
  · split at h
    · cases h; exact ⟨[], rfl, rfl, .inl ⟨rfl, rfl⟩⟩
    · cases h
    · rename_i xs ad hne
      split at h
      · rename_i s1 hs
        cases h
        exact ⟨_, rfl, rfl, .inr ⟨ad, rfl, hs⟩⟩
      · cases h
theorem copy_e (TB : TbOk P tb) {s s' : St} {ats : Array TypeId} {ty : TypeId} {te : TI} {a : Option Addr} {len cap : Nat} {x : Value} {r : AR} (hte : elemA tb.ty ats.toList.head? = some te)
    (h : copyA s te a len x = some (r, s')) : ∃ v, r = .val v ∧ ESem P tb s s' [.slice a len cap, x] (fun ι => Builtin.copy_ ats ty #[conc ι (.slice a len cap), conc ι x]) v := by
  obtain ⟨t, ti, e, ha0, g1, g2, g3⟩ := head_some hte
  obtain ⟨d, m1, _, r1⟩ := und_of TB g1
  rw [g2] at m1
  cases d <;> simp [TDOk] at m1
  subst m1
  have KE := TB.ty _ _ g3
  have hbase : ∀ ι : Io, ∃ c', conc ι (.slice a len cap) = .slice (a.map (addrC ι)) len c' := by
    intro ι; cases a with
    | none => exact ⟨cap, by simp [conc]⟩
    | some a => exact ⟨_, by simp only [conc]; rfl⟩
  have fin : ∀ {xs : List Value} {n : Nat}, (xs = [] ∧ s' = s) ∨ (∃ ad, a = some ad ∧ storeAt s ad xs = some s') → ∀ (ι : Io) (w : World), Good tb ι s.get w → (∀ v ∈ xs, inD (roomy ι s.get) v) →
      ∃ w', ((match a.map (addrC ι) with | some a => storeCells a (xs.map (conc ι)) | none => pure () : Sem Unit)).run P w = .ok () w' ∧ Ext tb ι s.get w ι s'.get w' s'.mods := by
    intro xs n hx ι w G hin
    rcases hx with ⟨rfl, rfl⟩ | ⟨ad, rfl, hs⟩
    · refine ⟨w, ?_, Ext.refl G _⟩
      cases a <;> simp [storeCells]
    · obtain ⟨w', h1, h2⟩ := storeAt_spec (P := P) G hs hin
      exact ⟨w', by simpa using h1, h2⟩
  unfold copyA at h
  split at h
  · rename_i m c
    cases hm : Nat.beq m 0 with
    | false => rw [hm] at h; cases h
    | true =>
      rw [hm] at h
      have := Nat.eq_of_beq_eq_true hm
      subst this
      cases h
      refine ⟨_, rfl, fun _ => Ev.refl s, fun ι w _ G hin => ⟨ι, w, ?_, Ext.refl G _, by simp only [inD]⟩⟩
      obtain ⟨c', hb⟩ := hbase ι
      simp only [Builtin.copy_, ha0, hb]
      cases a <;> simp [r1, conc, Builtin.lenOf, Builtin.firstCells, KE.run_sizeOf, storeCells, goInt]
  · rename_i b m c
    obtain ⟨xs, hxs, rfl, hx⟩ := copyTo_some h
    rw [cellsAt_eq] at hxs
    refine ⟨_, rfl, fun _ => ?_, fun ι w _ G hin => ?_⟩
    · rcases hx with ⟨_, rfl⟩ | ⟨ad, _, hs⟩
      · exact Ev.refl _
      · exact storeAt_ev hs
    · obtain ⟨w', h1, h2⟩ := fin (n := 0) hx ι w G (G.cellsIn hxs)
      refine ⟨ι, w', ?_, h2, by simp only [inD]⟩
      obtain ⟨c', hb⟩ := hbase ι
      have hld := run_loadCells_ae (P := P) G hxs
      simp only [Builtin.copy_, ha0, hb]
      cases a with
      | none =>
        simp only [Option.map_none] at h1
        simp [r1, conc, Builtin.lenOf, Builtin.firstCells, KE.run_sizeOf, goInt, hld]
        simpa using h1
      | some ad =>
        simp only [Option.map_some] at h1
        simp [r1, conc, Builtin.lenOf, Builtin.firstCells, KE.run_sizeOf, goInt, hld, h1]
  · rename_i b
    obtain ⟨xs, hxs, rfl, hx⟩ := copyTo_some h
    obtain ⟨rfl, hlen⟩ := takeX_some hxs
    have hsz : b.data.toList.length = b.size := by rw [Array.length_toList]; rfl
    have hu8 : ∀ v ∈ (bytesV b.data.toList).take (min b.data.toList.length len), ∃ n : Int, v = .int .u8 n := by
      intro v hv
      have hv := List.mem_of_mem_take hv
      rw [bytesV_eq] at hv
      obtain ⟨c, _, rfl⟩ := List.mem_map.1 hv
      exact ⟨_, rfl⟩
    refine ⟨_, rfl, fun _ => ?_, fun ι w _ G hin => ?_⟩
    · rcases hx with ⟨_, rfl⟩ | ⟨ad, _, hs⟩
      · exact Ev.refl _
      · exact storeAt_ev hs
    · obtain ⟨w', h1, h2⟩ := fin (n := 0) hx ι w G (fun v hv => by obtain ⟨n, rfl⟩ := hu8 v hv; simp only [inD])
      rw [conc_bytes ι _ hu8, hsz] at h1
      refine ⟨ι, w', ?_, h2, by simp only [inD]⟩
      obtain ⟨c', hb⟩ := hbase ι
      have hbt := bytes_take b (min b.size len) (Nat.min_le_left _ _)
      simp only [Builtin.copy_, ha0, hb]
      cases a with
      | none =>
        simp only [Option.map_none] at h1
        simp [r1, conc, Builtin.lenOf, Builtin.firstCells, KE.run_sizeOf, goInt, hsz]
        simpa using h1
      | some ad =>
        simp only [Option.map_some] at h1
        rw [← hbt] at h1
        simp [r1, conc, Builtin.lenOf, Builtin.firstCells, KE.run_sizeOf, goInt, hsz]
        simp at h1
        simp [h1]
  · cases h
end Go.Proofs.Ae
namespace Go.Proofs.Ae
variable {P : Program}
inductive AArg (P : Program) (ats : Array TypeId) (inf : TypeInfo) (z : Value) (w : World) : Value → Nat → List Value → Prop
  | slice (u e : TypeId) (h1 : ats[1]? = some u) (hu : P.underlying u = some (.slice e)) (x : Option Addr) (n c : Nat) (news : List Value)
      (hf : ∀ w' : World, w'.heap = w.heap → (Builtin.firstCells inf.size n (.slice x n c)).run P w' = .ok news.toArray w') : AArg P ats inf z w (.slice x n c) n news
  | string (u : TypeId) (h1 : ats[1]? = some u) (hu : P.underlying u = some .string) (s : ByteArray) : AArg P ats inf z w (.string s) s.size (bytesV s.data.toList)
  | zeros (u : TypeId) (k : IntKind) (h1 : ats[1]? = some u) (hu : P.underlying u = some (.int k)) (n : Nat) (hn : n * inf.bytes ≤ 140737488355328) (hn2 : n ≤ 140737488355328) :
      AArg P ats inf z w (.int .i64 (Int.ofNat n)) n (Builtin.zeroCells z.cells n).toList
theorem bytes_all (s : ByteArray) : (s.extract 0 s.size).data.map (fun b => Value.int .u8 b.toNat) = (bytesV s.data.toList).toArray := by
  apply Array.ext'
  have := bytes_take s s.size (Nat.le_refl _)
  rw [this]
  have hsz : (bytesV s.data.toList).length = s.size := by rw [bytesV_eq, List.length_map, Array.length_toList]; rfl
  rw [← hsz, List.take_length]
theorem append_room {w : World} {ats : Array TypeId} {ty t e : TypeId} {inf : TypeInfo} {z x : Value} {n : Nat} {news : List Value} (h0 : ats[0]? = some t) (ht : P.underlying t = some (.slice e)) (hi : P.info? e = some inf) (hz : inf.zero = some z) (hzs : z.cells.size = inf.size)
    (hA : AArg P ats inf z w x n news) (base : Option Addr) (sLen sCap : Nat) (hr : sLen + n ≤ sCap) :
    (Builtin.append_ ats ty #[.slice base sLen sCap, x]).run P w = (match base with
      | some a => ((storeCells (a.add (sLen * inf.size)) news).run P w).andThen fun _ w' => .ok (.slice base (sLen + n) sCap) w'
      | none => .ok (.slice base (sLen + n) sCap) w) := by
  cases hA with
  | slice u e' h1 hu x n c news hf =>
    have := hf w rfl
    cases base <;> simp [Builtin.append_, h0, h1, run_underlying ht, run_underlying hu, sizeOf, typeInfo, hi, Builtin.lenOf, hr, this, Result.andThen]
  | string u h1 hu s =>
    have hb := bytes_all s
    have hf : ∀ w', (Builtin.firstCells inf.size s.size (.string s)).run P w' = .ok (bytesV s.data.toList).toArray w' := fun w' => by
      show (pure _ : Sem _).run P w' = _
      rw [hb]; rfl
    cases base <;> simp [Builtin.append_, h0, h1, run_underlying ht, run_underlying hu, sizeOf, typeInfo, hi, Builtin.lenOf, hr, hf, Result.andThen]
  | zeros u k h1 hu n hn hn2 =>
    have hw : IntKind.i64.wrap (Int.ofNat n) = (n : Int) := wrap_in .i64 n (by show n ≤ 9223372036854775807; omega)
    have hw' : IntKind.i64.wrap (n : Int) = (n : Int) := hw
    have hb : ¬ ((n : Int) * (inf.bytes : Int) > 2 ^ 48) := by
      rw [← Int.natCast_mul]
      have : ((n * inf.bytes : Nat) : Int) ≤ 140737488355328 := Int.ofNat_le.2 hn
      omega
    have hb' : ¬ (281474976710656 < (n : Int) * (inf.bytes : Int)) := by simpa using hb
    by_cases hz0 : n * inf.size = 0
    · have hzc : Builtin.zeroCells z.cells n = #[] := Array.eq_empty_of_size_eq_zero (by rw [size_zeroCells, hzs]; exact hz0)
      rw [hzc]
      cases base <;> simp [Builtin.append_, h0, h1, run_underlying ht, run_underlying hu, sizeOf, typeInfo, hi, hr, asInt, asIntOf, hw', hb', hz0, zeroValue, hz, Result.andThen]
      all_goals (intro h; omega)
    · cases base <;> simp [Builtin.append_, h0, h1, run_underlying ht, run_underlying hu, sizeOf, typeInfo, hi, hr, asInt, asIntOf, hw', hb', hz0, zeroValue, hz, Result.andThen]
      all_goals (intro h; omega)
theorem append_grow {w : World} {ats : Array TypeId} {ty t e : TypeId} {inf : TypeInfo} {z x : Value} {n : Nat} {news : List Value} (h0 : ats[0]? = some t) (ht : P.underlying t = some (.slice e)) (hi : P.info? e = some inf) (hz : inf.zero = some z) (hzs : z.cells.size = inf.size)
    (hA : AArg P ats inf z w x n news) (base : Option Addr) (sLen sCap : Nat) (olds : List Value) (hr : sCap < sLen + n) (hb1 : (sLen + n) * inf.bytes ≤ 140737488355328) (hb2 : 1 ≤ inf.bytes)
    (ho : ∀ w' : World, w'.heap = w.heap → (Builtin.firstCells inf.size sLen (.slice base sLen sCap)).run P w' = .ok olds.toArray w') :
    (Builtin.append_ ats ty #[.slice base sLen sCap, x]).run P w = .ok (.slice (some ⟨w.heap.size, 0, none⟩) (sLen + n) (grownCap w (sLen + n) sCap e))
        (w.drew.alloc (.cells (olds.toArray ++ news.toArray ++ Builtin.zeroCells z.cells (grownCap w (sLen + n) sCap e - (sLen + n))) e)) := by
  have hn : ¬ (sLen + n ≤ sCap) := by omega
  have hle : sLen + n ≤ 140737488355328 := Nat.le_trans (by simpa using Nat.mul_le_mul_left (sLen + n) hb2) hb1
  have h63' : ¬ (9223372036854775807 < ((sLen : Int) + (n : Int))) := by omega
  have h48 := growslice_fits hr hb1
  have h48' : ¬ (281474976710656 < Builtin.nextslicecap (sLen + n) sCap * inf.bytes) := by omega
  have hod := ho w.drew rfl
  cases hA with
  | slice u e' h1 hu x n c news hf =>
    have hfd := hf w.drew rfl
    simp [Builtin.append_, h0, h1, run_underlying ht, run_underlying hu, sizeOf, typeInfo, zeroValue, hi, hz, Builtin.lenOf, hn, h63', h48', Question.forced, hfd, hod, newRow, grownCap]
    congr 2
    apply Array.ext'
    simp [List.append_assoc]
  | string u h1 hu s =>
    have hb := bytes_all s
    have hf : ∀ w', (Builtin.firstCells inf.size s.size (.string s)).run P w' = .ok (bytesV s.data.toList).toArray w' := fun w' => by
      show (pure _ : Sem _).run P w' = _
      rw [hb]; rfl
    simp [Builtin.append_, h0, h1, run_underlying ht, run_underlying hu, sizeOf, typeInfo, zeroValue, hi, hz, Builtin.lenOf, hn, h63', h48', Question.forced, hf, hod, newRow, grownCap]
    congr 2
    apply Array.ext'
    simp [List.append_assoc]
  | zeros u k h1 hu n hn1 hn2 =>
    have hw : IntKind.i64.wrap (Int.ofNat n) = (n : Int) := wrap_in .i64 n (by show n ≤ 9223372036854775807; omega)
    have hw' : IntKind.i64.wrap (n : Int) = (n : Int) := hw
    have hb : ¬ ((n : Int) * (inf.bytes : Int) > 2 ^ 48) := by
      rw [← Int.natCast_mul]
      have : ((n * inf.bytes : Nat) : Int) ≤ 140737488355328 := Int.ofNat_le.2 hn1
      omega
    have hb' : ¬ (281474976710656 < (n : Int) * (inf.bytes : Int)) := by simpa using hb
    have hnn : ¬ ((n : Int) < 0) := by omega
    by_cases hz0 : n * inf.size = 0
    · have hzc : Builtin.zeroCells z.cells n = #[] := Array.eq_empty_of_size_eq_zero (by rw [size_zeroCells, hzs]; exact hz0)
      rw [hzc]
      simp [Builtin.append_, h0, h1, run_underlying ht, run_underlying hu, sizeOf, typeInfo, zeroValue, hi, hz, asInt, asIntOf, hw', hb', hnn, hz0, hn, h63', h48', Question.forced, hod, newRow, grownCap]
    · simp [Builtin.append_, h0, h1, run_underlying ht, run_underlying hu, sizeOf, typeInfo, zeroValue, hi, hz, asInt, asIntOf, hw', hb', hnn, hz0, hn, h63', h48', Question.forced, hod, newRow, grownCap]
end Go.Proofs.Ae
namespace Go.Proofs.Ae
variable {P : Program} {tb : Tb}
theorem Good.congr {ι : Io} {g : Hp} {w w' : World} (G : Good tb ι g w) (h : w'.heap = w.heap) : Good tb ι g w' :=
  ⟨fun id o ho => (G.obj id o ho).mono (D := roomy ι g) (fun _ _ _ => rfl) (G.closed id o ho) (fun _ => by rw [h]), G.apart, G.closed, G.glob⟩
theorem conc_sl (ι : Io) (a : Option Addr) (n c : Nat) : ∃ c', conc ι (.slice a n c) = .slice (a.map (addrC ι)) n c' ∧ (c < cap0 → c' = c) ∧ ∀ x, a = some x → c' = capC ι x c := by
  cases a with
  | none => exact ⟨c, by simp [conc], fun _ => rfl, fun x h => by cases h⟩
  | some a => exact ⟨capC ι a c, by simp only [conc, Option.map_some], fun h => by simp [capC, h], fun x h => by cases h; rfl⟩
theorem zero_row (z : Array Value) (n : Nat) : (Builtin.zeroCells z n).toList = repl z.toList n := by
  unfold Builtin.zeroCells
  rw [row_repl]
theorem olds_run {ι : Io} {s : St} {w : World} (G : Good tb ι s.get w) {a : Option Addr} {sz len c' : Nat} {old : List Value} (h : oldCells s a (len * sz) = some old) :
    (∀ w' : World, w'.heap = w.heap → (Builtin.firstCells sz len (.slice (a.map (addrC ι)) len c')).run P w' = .ok (old.map (conc ι)).toArray w') ∧ (∀ v ∈ old, inD (roomy ι s.get) v) ∧ old.length = len * sz := by
  cases a with
  | none =>
    change (bif Nat.beq (len * sz) 0 then some [] else none) = some old at h
    cases hb : Nat.beq (len * sz) 0 with
    | false => rw [hb] at h; cases h
    | true =>
      rw [hb] at h
      cases h
      exact ⟨fun w' _ => by simp [Builtin.firstCells], fun v hv => (by cases hv), (Nat.eq_of_beq_eq_true hb).symm⟩
  | some a =>
    change cellsH s.get a (len * sz) = some old at h
    refine ⟨fun w' hw => ?_, G.cellsIn h, (cellsH_spec h).choose_spec.choose_spec.2.2.2⟩
    have := run_loadCells_ae (P := P) (G.congr hw) h
    simpa [Builtin.firstCells] using this
theorem grow_new {ι : Io} {g : Hp} {w : World} (G : Good tb ι g w) {n : Nat} (hn : g n = none) {cells : List Value} (hin : ∀ v ∈ cells, inD (roomy ι g) v) (rest : Array Value) (e : TypeId) (C : Nat) (sz : Nat) (M : List Nat)
    (hC : cells.length + rest.size = C * sz) :
    Ext tb ι g w (upI ι n ⟨w.heap.size, 0, C * sz⟩) (hset g n (.cells cells .grow)) (w.drew.alloc (.cells ((cells.map (conc ι)).toArray ++ rest) e)) M := by
  refine Ext.alloc G hn _ _ _ M hin rfl rfl rfl (by show w.heap.size ≤ (w.heap.push _).size; simp) (fun b hb => ?_) (.inr rfl) ⟨rfl, rest.toList, e, (0, 0), ?_, ?_, .inl (Nat.le_refl _)⟩
  · show (w.heap.push _)[b]? = w.heap[b]?
    rw [Array.getElem?_push, if_neg (by omega)]
  · show (w.heap.push _)[w.heap.size]? = _
    rw [Array.getElem?_push_size, upI_map hn _ hin]
    congr 2
    apply Array.ext'
    simp
  · simpa using hC.symm
theorem putAt_split : ∀ (c : List Value) (n : Nat) (vs : List Value), n + vs.length ≤ c.length → putAt c n vs = c.take n ++ vs ++ c.drop (n + vs.length)
  | [], n, vs, h => by
    simp at h
    obtain ⟨rfl, rfl⟩ := h
    rfl
  | x :: c, 0, [], h => rfl
  | x :: c, 0, v :: vs, h => by
    simp only [putAt]
    rw [putAt_split c 0 vs (by simp at h ⊢; omega)]
    simp
  | x :: c, n + 1, vs, h => by
    simp only [putAt]
    rw [putAt_split c n vs (by simp at h; omega)]
    simp [Nat.add_right_comm n 1]
theorem off_addA (a : Addr) (n : Nat) : (addA a n).off = a.off + n := by
  unfold addA
  split <;> simp
theorem spot_addA (a : Addr) (n : Nat) (h : a.spot = none) : (addA a n).spot = none := by
  unfold addA
  split
  · exact h
  · rfl
theorem appendS_e {t e : TypeId} {te : TI} {inf : TypeInfo} {ats : Array TypeId} {ty : TypeId} (h0 : ats[0]? = some t) (ht : P.underlying t = some (.slice e)) (KE : TyOk P e te) (hi : P.info? e = some inf)
    {s s' : St} {a : Option Addr} {len cap n : Nat} {xs : List Value} {v : Value} (h : appendS s te.size te.bytes a len cap n xs = some (v, s')) :
    (s.Ok → Ev s s') ∧ ∀ ι w, s.Ok → Good tb ι s.get w → inD (roomy ι s.get) (.slice a len cap) → (∀ u ∈ xs, inD (roomy ι s.get) u) → ∀ cx, AArg P ats inf te.zero w cx n (xs.map (conc ι)) →
      ∃ ι' w', (Builtin.append_ ats ty #[conc ι (.slice a len cap), cx]).run P w = .ok (conc ι' v) w' ∧ Ext tb ι s.get w ι' s'.get w' s'.mods ∧ inD (roomy ι' s'.get) v := by
  obtain ⟨inf', i1, i2, i3, i4, _⟩ := KE.info
  rw [hi] at i1; cases i1
  have hzs : te.zero.cells.size = inf.size := by rw [KE.zsz, i2]
  unfold appendS at h
  cases hb : Nat.ble ((len + n) * te.bytes) 140737488355328 && allOne xs && Nat.ble 1 te.size && Nat.ble 1 te.bytes && Nat.beq xs.length (n * te.size) with
  | false => rw [hb] at h; cases h
  | true =>
    rw [hb] at h
    simp only [cond_true] at h
    simp only [Bool.and_eq_true] at hb
    have b1 := Nat.le_of_ble_eq_true hb.1.1.1.1
    have b2 := allOne_spec hb.1.1.1.2
    have b3 := Nat.le_of_ble_eq_true hb.1.1.2
    have b4 := Nat.le_of_ble_eq_true hb.1.2
    have b5 := Nat.eq_of_beq_eq_true hb.2
    rw [← i3] at b1 b4
    have hone : ∀ ι : Io, ∀ u ∈ xs.map (conc ι), u.oneCell' = true := fun ι u hu => by
      obtain ⟨q, hq, rfl⟩ := List.mem_map.1 hu
      rw [← oneV_eq, oneV_conc]; exact b2 q hq
    have hlenle : len + n ≤ 140737488355328 := Nat.le_trans (by simpa using Nat.mul_le_mul_left (len + n) b4) b1
    have anew : ∀ ι w (c' : Nat) (old : List Value), s.Ok → Good tb ι s.get w → oldCells s a (len * te.size) = some old → c' < len + n → (∀ u ∈ xs, inD (roomy ι s.get) u) → ∀ cx, AArg P ats inf te.zero w cx n (xs.map (conc ι)) →
        ∃ C, len + n ≤ C ∧ (Builtin.append_ ats ty #[.slice (a.map (addrC ι)) len c', cx]).run P w = .ok (.slice (some ⟨w.heap.size, 0, none⟩) (len + n) C)
          (w.drew.alloc (.cells (((old ++ xs).map (conc ι)).toArray ++ Builtin.zeroCells te.zero.cells (C - (len + n))) e)) ∧ (old ++ xs).length + (Builtin.zeroCells te.zero.cells (C - (len + n))).size = C * te.size := by
      intro ι w c' old hok G hold hlt hin cx hA
      obtain ⟨o1, o2, o3⟩ := olds_run (P := P) (c' := c') G hold
      have hrun := append_grow (P := P) (ty := ty) h0 ht hi i4 hzs hA (a.map (addrC ι)) len c' (old.map (conc ι)) hlt b1 b4 (by rw [i2]; exact o1)
      refine ⟨_, grownCap_le w (len + n) c' e, hrun.trans ?_, ?_⟩
      · congr 3
        simp
      · have hge := grownCap_le w (len + n) c' e
        rw [List.length_append, o3, b5, size_zeroCells, KE.zsz, ← Nat.add_mul, ← Nat.add_mul]
        congr 1
        omega
    cases hn0 : Nat.beq n 0 with
    | true =>
      rw [hn0] at h
      simp only [cond_true] at h
      have := Nat.eq_of_beq_eq_true hn0
      subst this
      have hxs : xs = [] := List.length_eq_zero_iff.1 (by simpa using b5)
      subst hxs
      cases hcc : (bif Nat.ble cap0 cap then Nat.ble (cap0 + 1) cap else Nat.ble len cap) with
      | false => rw [hcc] at h; cases h
      | true =>
        rw [hcc] at h
        cases h
        refine ⟨fun _ => Ev.refl s, fun ι w _ G hv _ cx hA => ⟨ι, w, ?_, Ext.refl G _, hv⟩⟩
        obtain ⟨c', e1, e2, e3⟩ := conc_sl ι a len cap
        have hle : len + 0 ≤ c' := by
          cases h1 : Nat.ble cap0 cap with
          | true =>
            rw [h1] at hcc
            simp only [cond_true] at hcc
            have h2 := Nat.le_of_ble_eq_true hcc
            cases a with
            | none => simp only [conc, Option.map_none, Value.slice.injEq, true_and] at e1; rw [← e1]; rw [cap0_eq] at h2; omega
            | some x =>
              rw [e3 x rfl]
              simp only [inD, needR] at hv
              rw [if_neg (by omega)] at hv
              unfold capC
              rw [if_neg (by omega)]
              rw [Nat.le_div_iff_mul_le (by omega)]
              have := hv.2
              simp only [Nat.add_zero]
              omega
          | false =>
            rw [h1] at hcc
            simp only [cond_false] at hcc
            rw [e2 (Nat.lt_of_not_le fun hn => by rw [Nat.ble_eq_true_of_le hn] at h1; cases h1)]
            exact Nat.le_of_ble_eq_true hcc
        rw [e1, append_room (P := P) (ty := ty) h0 ht hi i4 hzs hA (a.map (addrC ι)) len c' hle]
        cases a <;> simp [storeCells]
    | false =>
      rw [hn0] at h
      simp only [cond_false] at h
      have hn1 : 1 ≤ n := by
        cases n with
        | zero => cases hn0
        | succ k => omega
      cases hcc : Nat.ble cap0 cap with
      | true =>
        rw [hcc] at h
        simp only [cond_true] at h
        unfold appendG at h
        split at h
        · cases h
        · rename_i x
          split at h
          · rename_i hsp
            cases hce : Nat.beq cap (cap0 + te.size) with
            | false => rw [hce] at h; cases h
            | true =>
              rw [hce] at h
              simp only [cond_true] at h
              have hcap := Nat.eq_of_beq_eq_true hce
              subst hcap
              unfold appG at h
              split at h
              · rename_i c hg
                split at h
                · rename_i c' hc'
                  cases h
                  obtain ⟨hc1, hc2⟩ := putX_some hc'
                  have hst : storeAt s (addA x (len * te.size)) xs = some (s.upd x.block (.cells c' .grow)) := by
                    unfold storeAt
                    rw [spot_addA _ _ hsp]
                    simp only [block_addA, off_addA, hg, storeO, hb.1.1.1.2, cond_true, hc']
                  refine ⟨fun _ => storeAt_ev hst, fun ι w _ G hv hin cx hA => ?_⟩
                  obtain ⟨w', r1, r2⟩ := storeAt_spec (P := P) G hst hin
                  obtain ⟨k1, rest, e', fz, k3, k5, k4⟩ := G.obj _ _ hg
                  have hle : len + n ≤ capC ι x (cap0 + te.size) := by
                    rw [capC_grow, Nat.le_div_iff_mul_le b3, Nat.add_mul]
                    rw [b5] at hc2
                    omega
                  refine ⟨ι, w', ?_, r2, ?_⟩
                  · have e1 : conc ι (.slice (some x) len (cap0 + te.size)) = .slice ((some x).map (addrC ι)) len (capC ι x (cap0 + te.size)) := by simp only [conc, Option.map_some]
                    rw [e1, append_room (P := P) (ty := ty) h0 ht hi i4 hzs hA _ len _ hle]
                    rw [addrC_addA, ← i2] at r1
                    simp only [Option.map_some, r1, Result.andThen, conc]
                  · simp only [inD, needR_grow] at hv ⊢
                    rw [St.get_upd]
                    refine ⟨hdom_hset hv.1, ?_⟩
                    rw [b5] at hc2
                    rw [Nat.add_mul]
                    omega
                · rename_i hnone
                  cases hx0 : Nat.beq x.off 0 with
                  | false => rw [hx0] at h; cases h
                  | true =>
                    rw [hx0] at h
                    simp only [cond_true] at h
                    have hoff := Nat.eq_of_beq_eq_true hx0
                    split at h
                    · rename_i old hold
                      cases h
                      obtain ⟨ho1, ho2⟩ := takeX_some hold
                      have hne : s.Ok → s.get s.next = none := fun hok => hok.fresh
                      refine ⟨fun hok => ?_, fun ι w hok G hv hin cx hA => ?_⟩
                      · have hf := hok.fresh
                        have hxn : s.next ≠ x.block := fun e => by rw [← e, hf] at hg; cases hg
                        exact (Ev.upd .dead hg).trans (Ev.alloc _ (by rw [St.next_upd, St.get_upd_ne _ _ _ _ hxn]; exact hf))
                      · have hf := hok.fresh
                        obtain ⟨k1, rest, e', fz, k3, k5, k4⟩ := G.obj _ _ hg
                        have hins : ∀ u ∈ old ++ xs, inD (roomy ι s.get) u := by
                          intro u hu
                          rcases List.mem_append.1 hu with hu | hu
                          · rw [ho1] at hu; exact G.closed _ _ hg u (List.mem_of_mem_take hu)
                          · exact hin u hu
                        have hlc : len * te.size ≤ c.length := by rw [← ho2, ho1]; simp; omega
                        have hgetS : ((s.upd x.block .dead).alloc (.cells (old ++ xs) .grow)).get = hset (hset s.get x.block .dead) s.next (.cells (old ++ xs) .grow) := by
                          rw [St.get_alloc, St.get_upd, St.next_upd]
                        have hmodS : ((s.upd x.block .dead).alloc (.cells (old ++ xs) .grow)).mods = x.block :: s.mods := rfl
                        have e1 : conc ι (.slice (some x) len (cap0 + te.size)) = .slice ((some x).map (addrC ι)) len (capC ι x (cap0 + te.size)) := by simp only [conc, Option.map_some]
                        have haddr : addrC ι x = ⟨(ι x.block).block, 0, none⟩ := by simp [addrC, k1, hsp, hoff]
                        have hcapx : capC ι x (cap0 + te.size) = (ι x.block).room / te.size := by rw [capC_grow, hoff, Nat.sub_zero]
                        rw [e1, hgetS, hmodS]
                        by_cases hroom : len + n ≤ capC ι x (cap0 + te.size)
                        · have hfit : (len + n) * te.size ≤ (ι x.block).room := by
                            rw [hcapx, Nat.le_div_iff_mul_le b3] at hroom; exact hroom
                          have hlenr : (c.map (conc ι) ++ rest).length = (ι x.block).room := by simp [k5]
                          have hfit' : len * te.size + (xs.map (conc ι)).length ≤ (c.map (conc ι) ++ rest).length := by
                            rw [hlenr, List.length_map, b5, ← Nat.add_mul]; exact hfit
                          obtain ⟨w', r1, W⟩ := run_storeCells_wr (P := P) (ι x.block).block (len * te.size) e' fz (xs.map (conc ι)) 0 (c.map (conc ι) ++ rest) w k3 (by simpa using hfit') (by simpa using k4) (hone ι)
                          have hput : putAt (c.map (conc ι) ++ rest) (len * te.size + 0) (xs.map (conc ι)) = (old ++ xs).map (conc ι) ++ (c.map (conc ι) ++ rest).drop ((len + n) * te.size) := by
                            rw [Nat.add_zero, putAt_split _ _ _ hfit', List.take_append_of_le_length (by simpa using hlc), ← List.map_take, ← ho1]
                            simp only [List.map_append, List.length_map, b5, Nat.add_mul]
                          rw [hput] at W
                          have hL : ∀ L : Loc, L = ⟨(ι x.block).block, 0, (ι x.block).room⟩ → capC (upI ι s.next L) ⟨s.next, 0, none⟩ (cap0 + te.size) = capC ι x (cap0 + te.size) := by
                            intro L hL; subst hL
                            rw [capC_grow, hcapx]; simp [upI_self]
                          refine ⟨upI ι s.next ⟨(ι x.block).block, 0, (ι x.block).room⟩, w', ?_, ?_, ?_⟩
                          · rw [append_room (P := P) (ty := ty) h0 ht hi i4 hzs hA _ len _ hroom]
                            have hadd : (addrC ι x).add (len * inf.size) = ⟨(ι x.block).block, len * te.size, none⟩ := by
                              rw [haddr, addr_add _ rfl, i2]; simp
                            simp only [Option.map_some, hadd, r1, Result.andThen, conc, hL _ rfl]
                            simp [addrC, upI_self, haddr, k1, hsp, hoff]
                          · refine Ext.move G (by simp) hg rfl hf _ rfl hins W.os W.tape W.output (by rw [W.size]; exact Nat.le_refl _) (fun b _ hb => W.other b hb) (.inl rfl) ⟨rfl, (c.map (conc ι) ++ rest).drop ((len + n) * te.size), e', fz, ?_, ?_, ?_⟩
                            · rw [upI_map hf _ hins]; exact W.here
                            · simp only [List.length_append, List.length_drop, ho2, b5, ← Nat.add_mul]
                              rw [← List.length_append, hlenr]
                              omega
                            · simp only [List.length_append, List.length_drop, ho2, b5, ← Nat.add_mul]
                              rw [← List.length_append, hlenr]
                              rcases k4 with k4 | k4
                              · exact .inl k4
                              · exact .inr (by omega)
                          · simp only [inD, needR_grow]
                            refine ⟨hdom_of (hset_self _ _ _), ?_⟩
                            rw [upI_self]; simpa using hfit
                        · have holdc : oldCells s (some x) (len * te.size) = some old := by
                            show cellsAt s x (len * te.size) = some old
                            rw [cellsAt_eq]
                            unfold cellsH
                            rw [hsp]
                            simp only [hg, cellsOf, dropX_eq, hoff, List.drop_zero, hold]
                          obtain ⟨C, hC, hrun, hsz⟩ := anew ι w _ old hok G holdc (Nat.lt_of_not_le hroom) hin cx hA
                          refine ⟨upI ι s.next ⟨w.heap.size, 0, C * te.size⟩, w.drew.alloc (.cells (((old ++ xs).map (conc ι)).toArray ++ Builtin.zeroCells te.zero.cells (C - (len + n))) e), ?_, ?_, ?_⟩
                          · rw [hrun]
                            simp only [conc, addrC, upI_self, capC_grow, Nat.sub_zero, Nat.zero_add, Nat.mul_div_cancel _ b3]
                          · refine Ext.move G (by simp) hg rfl hf _ rfl hins rfl rfl rfl (by show w.heap.size ≤ (w.heap.push _).size; simp) (fun b hb _ => ?_) (.inr rfl) ⟨rfl, (Builtin.zeroCells te.zero.cells (C - (len + n))).toList, e, (0, 0), ?_, ?_, .inl (Nat.le_refl _)⟩
                            · show (w.heap.push _)[b]? = w.heap[b]?
                              rw [Array.getElem?_push, if_neg (by omega)]
                            · show (w.heap.push _)[w.heap.size]? = _
                              rw [Array.getElem?_push_size, upI_map hf _ hins]
                              congr 2
                              apply Array.ext'
                              simp
                            · simpa using hsz.symm
                          · simp only [inD, needR_grow]
                            refine ⟨hdom_of (hset_self _ _ _), ?_⟩
                            rw [upI_self]
                            simp only [Nat.zero_add]
                            exact Nat.mul_le_mul_right _ hC
                    · cases h
              · cases h
          · cases h
      | false =>
        rw [hcc] at h
        simp only [cond_false] at h
        have hlt : cap < cap0 := Nat.lt_of_not_le fun hn => by rw [Nat.ble_eq_true_of_le hn] at hcc; cases hcc
        unfold appendE at h
        cases hfit : Nat.ble (len + n) cap with
        | true =>
          rw [hfit] at h
          simp only [cond_true] at h
          have hle := Nat.le_of_ble_eq_true hfit
          split at h
          · cases h
          · rename_i ad
            split at h
            · rename_i s1 hst
              cases h
              refine ⟨fun _ => storeAt_ev hst, fun ι w _ G hv hin cx hA => ?_⟩
              obtain ⟨w', r1, r2⟩ := storeAt_spec (P := P) G hst hin
              refine ⟨ι, w', ?_, r2, ?_⟩
              · rw [conc_exact _ _ _ _ hlt, conc_exact _ _ _ _ hlt, append_room (P := P) (ty := ty) h0 ht hi i4 hzs hA _ len _ hle]
                rw [addrC_addA, ← i2] at r1
                simp only [Option.map_some, r1, Result.andThen]
              · simp only [inD, needR] at hv ⊢
                rw [if_pos hlt] at hv ⊢
                exact r2.rm _ _ hv
            · cases h
        | false =>
          rw [hfit] at h
          simp only [cond_false] at h
          have hgt : cap < len + n := Nat.lt_of_not_le fun hn => by rw [Nat.ble_eq_true_of_le hn] at hfit; cases hfit
          split at h
          · rename_i old hold
            cases h
            refine ⟨fun hok => Ev.alloc _ hok.fresh, fun ι w hok G hv hin cx hA => ?_⟩
            obtain ⟨o1, o2, o3⟩ := olds_run (P := P) (c' := cap) G hold
            obtain ⟨C, hC, hrun, hsz⟩ := anew ι w cap old hok G hold hgt hin cx hA
            have hins : ∀ u ∈ old ++ xs, inD (roomy ι s.get) u := by
              intro u hu
              rcases List.mem_append.1 hu with hu | hu
              · exact o2 u hu
              · exact hin u hu
            refine ⟨upI ι s.next ⟨w.heap.size, 0, C * te.size⟩, w.drew.alloc (.cells (((old ++ xs).map (conc ι)).toArray ++ Builtin.zeroCells te.zero.cells (C - (len + n))) e), ?_, ?_, ?_⟩
            · rw [conc_exact _ _ _ _ hlt, hrun]
              simp only [conc, addrC, upI_self, capC_grow, Nat.sub_zero, Nat.zero_add, Nat.mul_div_cancel _ b3]
            · rw [St.get_alloc]
              exact grow_new G hok.fresh hins _ e C te.size _ hsz
            · rw [St.get_alloc]
              simp only [inD, needR_grow]
              refine ⟨hdom_of (hset_self _ _ _), ?_⟩
              rw [upI_self]
              simp only [Nat.zero_add]
              exact Nat.mul_le_mul_right _ hC
          · cases h
end Go.Proofs.Ae
namespace Go.Proofs.Ae
variable {P : Program} {tb : Tb}
theorem append_e (TB : TbOk P tb) {s s' : St} {ats : Array TypeId} {ty : TypeId} {te : TI} {a : Option Addr} {len cap : Nat} {x : Value} {r : AR} (hte : elemA tb.ty ats.toList.head? = some te)
    (h : appendA s te (tyD tb.ty ats.toList.tail.head?) a len cap x = some (r, s')) : ∃ v, r = .val v ∧ ESem P tb s s' [.slice a len cap, x] (fun ι => Builtin.append_ ats ty #[conc ι (.slice a len cap), conc ι x]) v := by
  obtain ⟨t, ti, e, ha0, g1, g2, g3⟩ := head_some hte
  obtain ⟨d, m1, u1, r1⟩ := und_of TB g1
  rw [g2] at m1
  cases d <;> simp [TDOk] at m1
  subst m1
  rename TypeId => el
  have KE := TB.ty _ _ g3
  obtain ⟨inf, i1, i2, i3, i4, _⟩ := KE.info
  have ha1 : ∀ {u : TypeId} {rest : List TypeId}, ats.toList.tail = u :: rest → ats[1]? = some u := by
    intro u rest hu
    rw [← Array.getElem?_toList]
    cases hl : ats.toList with
    | nil => rw [hl] at hu; cases hu
    | cons y l =>
      rw [hl] at hu
      simp only [List.tail_cons] at hu
      rw [hu]; rfl
  unfold appendA at h
  split at h
  · rename_i e2 m c hd
    obtain ⟨u, rest, tu, hu0, hu1, hu2⟩ := tyD_head hd (by simp)
    obtain ⟨du, mu, uu, _⟩ := und_of TB hu1
    rw [hu2] at mu
    cases du <;> simp [TDOk] at mu
    cases hm : Nat.beq m 0 with
    | false => rw [hm] at h; cases h
    | true =>
      rw [hm] at h
      simp only [cond_true] at h
      have := Nat.eq_of_beq_eq_true hm
      subst this
      obtain ⟨v, hv, rfl⟩ := valS_some h
      obtain ⟨E1, E2⟩ := appendS_e (tb := tb) (P := P) (ty := ty) ha0 u1 KE i1 hv
      refine ⟨v, rfl, E1, fun ι w hok G hin => ?_⟩
      refine E2 ι w hok G (hin _ (by simp)) (fun u hu => by cases hu) _ ?_
      simp only [conc, List.map_nil]
      exact AArg.slice u _ (ha1 hu0) uu none 0 c [] (fun w' _ => by simp [Builtin.firstCells])
  · rename_i e2 b m c hd
    obtain ⟨u, rest, tu, hu0, hu1, hu2⟩ := tyD_head hd (by simp)
    obtain ⟨du, mu, uu, _⟩ := und_of TB hu1
    rw [hu2] at mu
    cases du <;> simp [TDOk] at mu
    split at h
    · cases h
    · rename_i xs hxs
      rw [cellsAt_eq] at hxs
      obtain ⟨v, hv, rfl⟩ := valS_some h
      obtain ⟨E1, E2⟩ := appendS_e (tb := tb) (P := P) (ty := ty) ha0 u1 KE i1 hv
      refine ⟨v, rfl, E1, fun ι w hok G hin => ?_⟩
      refine E2 ι w hok G (hin _ (by simp)) (G.cellsIn hxs) _ ?_
      simp only [conc]
      refine AArg.slice u _ (ha1 hu0) uu (some (addrC ι b)) m _ _ (fun w' hw => ?_)
      have := run_loadCells_ae (P := P) (G.congr hw) hxs
      rw [i2]
      simpa [Builtin.firstCells] using this
  · rename_i str hd
    obtain ⟨u, rest, tu, hu0, hu1, hu2⟩ := tyD_head hd (by simp)
    obtain ⟨du, mu, uu, _⟩ := und_of TB hu1
    rw [hu2] at mu
    cases du <;> simp [TDOk] at mu
    obtain ⟨v, hv, rfl⟩ := valS_some h
    obtain ⟨E1, E2⟩ := appendS_e (tb := tb) (P := P) (ty := ty) ha0 u1 KE i1 hv
    have hsz : str.data.toList.length = str.size := by rw [Array.length_toList]; rfl
    have hu8 : ∀ v ∈ bytesV str.data.toList, ∃ n : Int, v = .int .u8 n := by
      intro v hv
      rw [bytesV_eq] at hv
      obtain ⟨c, _, rfl⟩ := List.mem_map.1 hv
      exact ⟨_, rfl⟩
    refine ⟨v, rfl, E1, fun ι w hok G hin => ?_⟩
    refine E2 ι w hok G (hin _ (by simp)) (fun q hq => by obtain ⟨n, rfl⟩ := hu8 q hq; simp only [inD]) _ ?_
    rw [conc_bytes ι _ hu8, hsz]
    simp only [conc]
    exact AArg.string u (ha1 hu0) uu str
  · rename_i kk n hd
    obtain ⟨u, rest, tu, hu0, hu1, hu2⟩ := tyD_head hd (by simp)
    obtain ⟨du, mu, uu, _⟩ := und_of TB hu1
    rw [hu2] at mu
    cases du <;> simp [TDOk] at mu
    cases hb : Nat.ble n 1048576 with
    | false => rw [hb] at h; cases h
    | true =>
      rw [hb] at h
      simp only [cond_true] at h
      have hle := Nat.le_of_ble_eq_true hb
      obtain ⟨v, hv, rfl⟩ := valS_some h
      have hbytes : n * inf.bytes ≤ 140737488355328 := by
        have hv2 := hv
        unfold appendS at hv2
        cases hq : Nat.ble ((len + n) * te.bytes) 140737488355328 && allOne (repl te.zero.cells.toList n) && Nat.ble 1 te.size && Nat.ble 1 te.bytes && Nat.beq (repl te.zero.cells.toList n).length (n * te.size) with
        | false => rw [hq] at hv2; cases hv2
        | true =>
          simp only [Bool.and_eq_true] at hq
          have := Nat.le_of_ble_eq_true hq.1.1.1.1
          rw [i3]
          exact Nat.le_trans (Nat.mul_le_mul_right _ (Nat.le_add_left n len)) this
      obtain ⟨E1, E2⟩ := appendS_e (tb := tb) (P := P) (ty := ty) ha0 u1 KE i1 hv
      refine ⟨v, rfl, E1, fun ι w hok G hin => ?_⟩
      refine E2 ι w hok G (hin _ (by simp)) (fun q hq => inD_False (inD_cells KE.zero q (mem_repl hq))) _ ?_
      rw [conc_repl ι (inD_cells KE.zero), ← zero_row]
      simp only [conc]
      exact AArg.zeros u _ (ha1 hu0) uu n hbytes (by omega)
  · cases h
theorem same_e (TB : TbOk P tb) {s s' : St} {src dst : TypeId} {t u : TypeId} {x : Value} {r : AR} (hs : tyD tb.ty (some src) = .slice t) (hd : tyD tb.ty (some dst) = .slice u)
    (h : convA tb.ty s (Nat.beq src dst) (tyD tb.ty (some src)) (tyD tb.ty (some dst)) x = some (r, s')) : ∃ v, r = .val v ∧ ESem P tb s s' [x] (fun ι => convert src dst (conc ι x)) v := by
  obtain ⟨ts, g1, e1⟩ := tyD_some hs (by simp)
  obtain ⟨td, g2, e2⟩ := tyD_some hd (by simp)
  obtain ⟨d1, m1, u1, r1⟩ := und_of TB g1
  obtain ⟨d2, m2, u2, r2⟩ := und_of TB g2
  rw [e1] at m1
  rw [e2] at m2
  cases d1 <;> simp [TDOk] at m1
  cases d2 <;> simp [TDOk] at m2
  subst m1 m2
  rename TypeId => el2
  rw [hs, hd] at h
  unfold convA at h
  simp only at h
  cases hsm : Nat.beq src dst && isU8 (tb.ty.get el2) with
  | false => rw [hsm] at h; cases h
  | true =>
    rw [hsm] at h
    simp only [cond_true] at h
    simp only [Bool.and_eq_true] at hsm
    have hsame := Nat.eq_of_beq_eq_true hsm.1
    obtain ⟨te, g3, e3⟩ := isU8_some hsm.2
    obtain ⟨d3, m3, u3, r3⟩ := und_of TB g3
    rw [e3] at m3
    cases d3 <;> simp [TDOk] at m3
    subst m3
    split at h
    · rename_i a n c
      unfold sameA at h
      split at h
      · rename_i l hg
        cases hb : Nat.beq a.off 0 && Nat.beq n l.length && Nat.beq c l.length && a.spot.isNone && !(Nat.ble cap0 c) with
        | false => rw [hb] at h; cases h
        | true =>
          rw [hb] at h
          simp only [cond_true, Option.some.injEq, Prod.mk.injEq] at h
          obtain ⟨rfl, rfl⟩ := h
          simp only [Bool.and_eq_true, Option.isNone_iff_eq_none] at hb
          have b1 := Nat.eq_of_beq_eq_true hb.1.1.1.1
          have b2 := Nat.eq_of_beq_eq_true hb.1.1.1.2
          have b3 := Nat.eq_of_beq_eq_true hb.1.1.2
          have b4 := hb.1.2
          have b5 : c < cap0 := Nat.lt_of_not_le fun hn => by have := hb.2; rw [Nat.ble_eq_true_of_le hn] at this; cases this
          have hgetS : ((s.upd a.block .dead).alloc (.cells l .grow)).get = hset (hset s.get a.block .dead) s.next (.cells l .grow) := by rw [St.get_alloc, St.get_upd, St.next_upd]
          have hmodS : ((s.upd a.block .dead).alloc (.cells l .grow)).mods = a.block :: s.mods := rfl
          refine ⟨_, rfl, fun hok => ?_, fun ι w hok G hin => ?_⟩
          · have hf := hok.fresh
            have hxn : s.next ≠ a.block := fun e => by rw [← e, hf] at hg; cases hg
            exact (Ev.upd .dead hg).trans (Ev.alloc _ (by rw [St.next_upd, St.get_upd_ne _ _ _ _ hxn]; exact hf))
          · have hf := hok.fresh
            obtain ⟨k1, k2, e', fz, k3, k4⟩ := G.obj _ _ hg
            have hins := G.closed _ _ hg
            rw [hgetS, hmodS]
            have hsz : (l.map (conc ι)).toArray.size = l.length := by simp
            have hsh : w.shape? (ι a.block).block = some (e', l.length) := by unfold World.shape?; rw [k3]; simp
            have haddr : addrC ι a = ⟨(ι a.block).block, 0, none⟩ := by simp [addrC, k1, b1, b4]
            have hrun : (convert src dst (conc ι (.slice (some a) n c))).run P w = .ok (conc ι (.slice (some a) n c)) (w.freeze ⟨(ι a.block).block, l.length, none⟩ 1) := by
              rw [conc_exact _ _ _ _ b5, Option.map_some, haddr]
              have hsame' : (src == dst) = true := by rw [hsame]; simp
              simp only [convert, Sem.run_bind, r1, r2, r3, Result.andThen_ok, hsame', markStringish, run_shape, hsh]
              rfl
            refine ⟨upI ι s.next ⟨(ι a.block).block, 0, l.length⟩, w.freeze ⟨(ι a.block).block, l.length, none⟩ 1, ?_, ?_, ?_⟩
            · show (convert src dst (conc ι (.slice (some a) n c))).run P w = _
              rw [hrun, conc_exact _ _ _ _ b5]
              simp only [Option.map_some, haddr, conc, capC_grow, upI_self, addrC]
              simp [b2, b3, b1, k1, b4]
            · have hlt : (ι a.block).block < w.heap.size := (Array.getElem?_eq_some_iff.1 k3).1
              refine Ext.move G (by simp) hg rfl hf _ rfl hins rfl rfl rfl (by simp [World.freeze]) (fun b _ hb => ?_) (.inl rfl) ⟨rfl, [], e', (l.length, l.length + 1), ?_, rfl, .inr (Nat.le_refl _)⟩
              · simp only [World.freeze, Nat.one_ne_zero, if_false, Array.getElem?_modify]
                rw [if_neg (Ne.symm hb)]
              · rw [upI_map hf _ hins]
                simp only [World.freeze, Nat.one_ne_zero, if_false, Array.getElem?_modify, if_true, k3, Option.map_some, k4, beq_self_eq_true, List.append_nil]
            · simp only [inD, needR_grow]
              refine ⟨hdom_of (hset_self _ _ _), ?_⟩
              rw [upI_self]; simp [b2]
      · cases h
    · cases h
end Go.Proofs.Ae
namespace Go.Proofs.Ae
variable {P : Program} {tb : Tb}
def EOp (P : Program) (tb : Tb) (o : Oper) (s : St) (tm : Tr Value) (s' : St) (r : AR) : Prop :=
  (s.Ok → Ev s s') ∧ ∀ ι w ρ, s.Ok → Good tb ι s.get w → RhoOk ι (roomy ι s.get) tm ρ o.op.operands.toList →
    ∃ ι' w' nx, (execOp ρ o).run P w = .ok nx w' ∧ Ext tb ι s.get w ι' s'.get w' s'.mods ∧ ((∃ v, r = .val v ∧ nx = .value (conc ι' v) ∧ inD (roomy ι' s'.get) v) ∨ (r = .skip ∧ nx = .skip))
theorem ESem.op {o : Oper} {s s' : St} {tm : Tr Value} {args : List Value} {X : Io → Sem Value} {v : Value} (h : ESem P tb s s' args X v)
    (hD : ∀ ι d ρ, RhoOk ι d tm ρ o.op.operands.toList → (∀ x ∈ args, inD d x) ∧ execOp ρ o = (do pure (.value (← X ι)))) : EOp P tb o s tm s' (.val v) :=
  ⟨h.1, fun ι w ρ hok G hp => by
    obtain ⟨d1, d2⟩ := hD ι _ ρ hp
    obtain ⟨ι', w', h1, h2, h3⟩ := h.2 ι w hok G d1
    exact ⟨ι', w', _, by rw [d2]; simp only [Sem.run_bind, h1, Result.andThen_ok, Sem.run_pure], h2, .inl ⟨v, rfl, rfl, h3⟩⟩⟩
theorem USem.op {o : Oper} {s s' : St} {tm : Tr Value} {args : List Value} {X : Io → Sem Unit} (h : USem P tb s s' args X)
    (hD : ∀ ι d ρ, RhoOk ι d tm ρ o.op.operands.toList → (∀ x ∈ args, inD d x) ∧ execOp ρ o = (do X ι; pure .skip)) : EOp P tb o s tm s' .skip :=
  ⟨h.1, fun ι w ρ hok G hp => by
    obtain ⟨d1, d2⟩ := hD ι _ ρ hp
    obtain ⟨ι', w', h1, h2⟩ := h.2 ι w hok G d1
    exact ⟨ι', w', _, by rw [d2]; simp only [Sem.run_bind, h1, Result.andThen_ok, Sem.run_pure], h2, .inr ⟨rfl, rfl⟩⟩⟩
theorem builtin_args {o : Oper} {b : Builtin} {args : Array Operand} {ats : Array TypeId} {tm : Tr Value} {ι : Io} {d : Nat → Nat → Prop} {ρ : Operand → Value} (hop : o.op = .call { callee := .builtin b, args := args, argTypes := ats })
    (hp : RhoOk ι d tm ρ o.op.operands.toList) : (∀ x ∈ evL tm args.toList, inD d x) ∧ ∃ consts, execOp ρ o = builtin b ats o.type consts ((evL tm args.toList).map (conc ι)).toArray := by
  rw [hop] at hp
  have hx : ∀ x ∈ args.toList, ρ x = conc ι (evO tm x) ∧ inD d (evO tm x) := fun x hm => hp x (by simp [Op.operands, Call.operands]; simpa using hm)
  refine ⟨fun x hm => ?_, args.map (fun | .const _ => true | _ => false), ?_⟩
  · rw [evL_eq] at hm; obtain ⟨q, hq1, rfl⟩ := List.mem_map.1 hm; exact (hx q hq1).2
  · have e1 : args.map ρ = ((evL tm args.toList).map (conc ι)).toArray := by
      apply Array.ext'
      rw [evL_eq, List.map_map, Array.toList_map]
      exact List.map_congr_left fun p hm => by simp [(hx p hm).1]
    rw [← e1]
    simp only [execOp, hop, resolve]
    rfl
theorem eff_op (TB : TbOk P tb) {o : Oper} {s s' : St} {tm : Tr Value} {r : AR} (he : effB o.op = true) (hc : callsB o.op = false) (h : opA tb.ty s tm o.op = some (r, s'))
    (hconv : ∀ a b x, o.op = .convert a b x → ∃ t u, tyD tb.ty (some a) = .slice t ∧ tyD tb.ty (some b) = .slice u) : EOp P tb o s tm s' r := by
  unfold opA at h
  cases hop : o.op <;> rw [hop] at h he hc <;> try (simp [effB] at he; done)
  case store t a v =>
    obtain ⟨rfl, hs⟩ := store_u TB h
    refine hs.op fun ι d ρ hp => ?_
    rw [hop] at hp
    obtain ⟨h1, h2⟩ := hp a (by simp [Op.operands])
    obtain ⟨h3, h4⟩ := hp v (by simp [Op.operands])
    exact ⟨fun x hx => by simp at hx; rcases hx with rfl | rfl <;> assumption, by simp [execOp, hop, h1, h3]⟩
  case mapUpdate t m k v =>
    obtain ⟨rfl, hs⟩ := mapUpd_u TB h
    refine hs.op fun ι d ρ hp => ?_
    rw [hop] at hp
    obtain ⟨h1, h2⟩ := hp m (by simp [Op.operands])
    obtain ⟨h3, h4⟩ := hp k (by simp [Op.operands])
    obtain ⟨h5, h6⟩ := hp v (by simp [Op.operands])
    exact ⟨fun x hx => by simp at hx; rcases hx with rfl | rfl | rfl <;> assumption, by simp [execOp, hop, h1, h3, h5]⟩
  case convert a b x =>
    obtain ⟨t, u, ht, hu⟩ := hconv a b x hop
    obtain ⟨v, rfl, hs⟩ := same_e TB ht hu h
    refine hs.op fun ι d ρ hp => ?_
    rw [hop] at hp
    obtain ⟨h1, h2⟩ := hp x (by simp [Op.operands])
    exact ⟨fun x hx => by simp at hx; subst hx; exact h2, by simp [execOp, hop, h1]⟩
  case defer c => simp [callsB] at hc
  case call c =>
    obtain ⟨callee, args, ats⟩ := c
    cases callee with
    | invoke x n => simp [callsB] at hc
    | value f => simp [callsB] at hc
    | builtin b =>
      change builtinA tb.ty s b ats.toList (evL tm args.toList) = some (r, s') at h
      unfold builtinA at h
      cases b <;> simp [effB, quietB] at he <;> simp only at h <;> try (cases h; done)
      case append =>
        split at h
        · rename_i a len cap x hargs
          split at h
          · rename_i te hte
            obtain ⟨v, rfl, hs⟩ := append_e TB (ty := o.type) hte h
            refine hs.op fun ι d ρ hp => ?_
            obtain ⟨hx, consts, hm⟩ := builtin_args hop hp
            rw [hargs] at hx hm
            exact ⟨hx, by rw [hm]; rfl⟩
          · cases h
        · cases h
      case copy =>
        split at h
        · rename_i a len cap x hargs
          split at h
          · rename_i te hte
            obtain ⟨v, rfl, hs⟩ := copy_e TB (ty := o.type) hte h (cap := cap)
            refine hs.op fun ι d ρ hp => ?_
            obtain ⟨hx, consts, hm⟩ := builtin_args hop hp
            rw [hargs] at hx hm
            exact ⟨hx, by rw [hm]; rfl⟩
          · cases h
        · cases h
      case delete =>
        split at h
        · rename_i rr k hargs
          split at h
          · rename_i kt et hd
            cases hk : keyT tb.ty kt k with
            | false => rw [hk] at h; cases h
            | true =>
              rw [hk] at h
              obtain ⟨v, rfl, hs⟩ := delete_e TB (ty := o.type) hd hk h
              refine hs.op fun ι d ρ hp => ?_
              obtain ⟨hx, consts, hm⟩ := builtin_args hop hp
              rw [hargs] at hx hm
              exact ⟨hx, by rw [hm]; rfl⟩
          · cases h
        · cases h
  all_goals first | (cases h; done) | skip
end Go.Proofs.Ae
