/- A part of the proof that the program's function answers true: lemmas (Sim3 to Sim12) on carrying the program out over names of memory objects. No condition. -/
import Derived.Test.YtmchinghfbdlkaaGreatDoorAe01
import Derived.Laws.Strings
import Derived.LaidEql
set_option linter.unusedVariables false
set_option linter.unusedSimpArgs false
namespace Go.Proofs.Ae
def TDOk (P : Program) : TypeDesc → TD → Prop
  | .bool, .bool => True
  | .int k, .int k' => k = k'
  | .string, .string => True
  | .pointer e, .pointer e' => e = e'
  | .slice e, .slice e' => e = e'
  | .array n e, .array n' e' => n = n' ∧ e = e'
  | .map k e, .map k' e' => k = k' ∧ e = e'
  | .struct fs, .struct l => l = fs.toList.map (fun f => (f.type, f.offset)) ∧ (∀ f ∈ fs.toList, (f.name == "_") = false) ∧ ∀ f ∈ fs.toList, (P.info? f.type).isSome = true
  | .interface ms, .iface b => b = !ms.isEmpty
  | .func _ _ _, .func => True
  | _, .other => True
  | _, _ => False
structure TyOk (P : Program) (t : TypeId) (i : TI) : Prop where
  info : ∃ f, P.info? t = some f ∧ f.size = i.size ∧ f.bytes = i.bytes ∧ f.zero = some i.zero ∧ f.comparable = i.comp
  und : ∃ d, P.underlying t = some d ∧ TDOk P d i.d
  zero : inD (fun _ _ => False) i.zero
  eqs : i.eqs = true → P.stoodInHeld t = false ∧ P.eqGuardType P.depth t = false
  zsz : i.zero.cells.size = i.size
structure TbOk (P : Program) (tb : Tb) : Prop where
  ty : ∀ t i, tb.ty.get t = some i → TyOk P t i
  fn : ∀ k f, tb.fn.get k = some f → P.funcs[k]? = some f ∧ (f.name == "runtime.NumGoroutine") = false ∧ funcOk tb f = true
  mixed : P.follows .mixedOrders = true
variable {P : Program} {tb : Tb}
theorem TyOk.run_underlying {t : TypeId} {i : TI} (h : TyOk P t i) : ∃ d, TDOk P d i.d ∧ P.underlying t = some d ∧ ∀ w, (underlying t).run P w = .ok d w := by
  obtain ⟨d, h1, h2⟩ := h.und
  exact ⟨d, h2, h1, fun w => Go.run_underlying h1 w⟩
theorem TyOk.run_sizeOf {t : TypeId} {i : TI} (h : TyOk P t i) (w : World) : (sizeOf t).run P w = .ok i.size w := by
  obtain ⟨f, h1, h2, h3, h4, h5⟩ := h.info
  simp [sizeOf, typeInfo, h1, h2]
theorem TyOk.run_zero {t : TypeId} {i : TI} (h : TyOk P t i) (w : World) : (zeroValue t).run P w = .ok i.zero w := by
  obtain ⟨f, h1, h2, h3, h4, h5⟩ := h.info
  simp [zeroValue, typeInfo, h1, h4]
theorem TyOk.run_info {t : TypeId} {i : TI} (h : TyOk P t i) (w : World) : ∃ f, (typeInfo t).run P w = .ok f w ∧ f.size = i.size ∧ f.bytes = i.bytes ∧ f.zero = some i.zero ∧ f.comparable = i.comp := by
  obtain ⟨f, h1, h2⟩ := h.info
  exact ⟨f, by simp [typeInfo, h1], h2⟩
theorem TyOk.run_isAgg {t : TypeId} {i : TI} (h : TyOk P t i) (hn : i.d ≠ .other) (w : World) : (isAgg t).run P w = .ok (isAggT i.d) w := by
  obtain ⟨d, h1, h2⟩ := h.und
  have hr := Go.run_underlying h1 w
  cases hd : i.d with
  | other => exact absurd hd hn
  | _ => rw [hd] at h2; cases d <;> simp [TDOk] at h2 <;> simp [isAgg, hr, isAggT]
def QSem (P : Program) (tb : Tb) (s s' : St) (rd : List Nat) (D : (Nat → Nat → Prop) → Prop) (X : Io → Sem Value) (v : Value) : Prop :=
  (s' = s ∨ ∃ o, s' = s.alloc o) ∧
  ∀ ι g w, Good tb ι g w → (∀ i ∈ rd, g i = s.get i) → D (roomy ι g) → ((∃ o, s' = s.alloc o) → g s.next = none) →
    ∃ ι' g' w', (X ι).run P w = .ok (conc ι' v) w' ∧ Ext tb ι g w ι' g' w' [] ∧ inD (roomy ι' g') v ∧ ((s' = s ∧ g' = g) ∨ ∃ o, s' = s.alloc o ∧ g' = hset g s.next o)
theorem QSem.same {s : St} {rd : List Nat} {D : (Nat → Nat → Prop) → Prop} {X : Io → Sem Value} {v : Value}
    (h : ∀ ι g w, Good tb ι g w → (∀ i ∈ rd, g i = s.get i) → D (roomy ι g) → (X ι).run P w = .ok (conc ι v) w ∧ inD (roomy ι g) v) : QSem P tb s s rd D X v :=
  ⟨.inl rfl, fun ι g w G hr hd _ => ⟨ι, g, w, (h ι g w G hr hd).1, Ext.refl G _, (h ι g w G hr hd).2, .inl ⟨rfl, rfl⟩⟩⟩
theorem QSem.new {s : St} {rd : List Nat} {D : (Nat → Nat → Prop) → Prop} {X : Io → Sem Value} {v : Value} {o : AObj}
    (h : ∀ ι g w, Good tb ι g w → (∀ i ∈ rd, g i = s.get i) → D (roomy ι g) → g s.next = none →
      ∃ L w', (X ι).run P w = .ok (conc (upI ι s.next L) v) w' ∧ Ext tb ι g w (upI ι s.next L) (hset g s.next o) w' [] ∧ inD (roomy (upI ι s.next L) (hset g s.next o)) v) : QSem P tb s (s.alloc o) rd D X v :=
  ⟨.inr ⟨o, rfl⟩, fun ι g w G hr hd hn => let ⟨L, w', h1, h2, h3⟩ := h ι g w G hr hd (hn ⟨o, rfl⟩); ⟨_, _, w', h1, h2, h3, .inr ⟨o, rfl, rfl⟩⟩⟩
noncomputable def loadH (ti : TI) (g : Hp) (a : Addr) : Option Value :=
  bif isOther ti.d then none else
  bif isAggT ti.d then aggO (cellsH g a ti.size) else oneO (cellsH g a 1)
theorem loadT_eq (ti : TI) (s : St) (a : Addr) : loadT ti s a = loadH ti s.get a := rfl
theorem cellsH_congr {g g' : Hp} {a : Addr} {n : Nat} (h : g a.block = g' a.block) : cellsH g a n = cellsH g' a n := by unfold cellsH; rw [h]
theorem loadH_congr {ti : TI} {g g' : Hp} {a : Addr} (h : g a.block = g' a.block) : loadH ti g a = loadH ti g' a := by
  unfold loadH; rw [cellsH_congr h, cellsH_congr h]
theorem aggO_some {o : Option (List Value)} {v : Value} (h : aggO o = some v) : ∃ l, o = some l ∧ v = .agg l.toArray := by
  cases o with
  | none => cases h
  | some l => cases h; exact ⟨l, rfl, rfl⟩
theorem oneO_some {o : Option (List Value)} {v : Value} (h : oneO o = some v) : o = some [v] := by
  unfold oneO at h
  split at h
  · cases h; rfl
  · cases h
theorem loadH_spec {t : TypeId} {ti : TI} (K : TyOk P t ti) {ι : Io} {g : Hp} {w : World} (G : Good tb ι g w) {a : Addr} {v : Value} (h : loadH ti g a = some v) :
    (loadVar t (addrC ι a)).run P w = .ok (conc ι v) w ∧ inD (roomy ι g) v := by
  unfold loadH at h
  by_cases ho : ti.d = .other
  · rw [ho] at h; simp [isOther] at h
  · have hno : isOther ti.d = false := by cases hd : ti.d <;> first | rfl | exact absurd hd ho
    rw [hno] at h
    simp only [cond_false] at h
    have hag := K.run_isAgg ho w
    cases hb : isAggT ti.d with
    | true =>
      rw [hb] at h hag
      simp only [cond_true] at h
      obtain ⟨l, hl, rfl⟩ := aggO_some h
      have := run_loadCells_ae (P := P) G hl
      refine ⟨?_, ?_⟩
      · simp [loadVar, hag, K.run_sizeOf, this, conc]
      · simp only [inD]
        intro v hv
        exact G.cellsIn hl v (by simpa using hv)
    | false =>
      rw [hb] at h hag
      simp only [cond_false] at h
      have hl := oneO_some h
      have := G.cellsH hl 0 v rfl
      rw [addr_add _ (by rw [addC_spot]; exact (cellsH_spec hl).choose_spec.choose_spec.1)] at this
      refine ⟨?_, G.cellsIn hl v (by simp)⟩
      simp only [loadVar, Sem.run_bind, hag, Result.andThen_ok, Bool.false_eq_true, if_false, run_load]
      have h2 : w.cell? (addrC ι a) = some (conc ι v) := this
      rw [h2]
theorem partT_spec {t : TypeId} {ti : TI} (K : TyOk P t ti) (ι : Io) {cs : List Value} {off : Nat} {v : Value} (h : partT ti cs off = some v) (w : World) :
    (part t (cs.map (conc ι)).toArray off).run P w = .ok (conc ι v) w ∧ ∀ D, (∀ u ∈ cs, inD D u) → inD D v := by
  unfold partT at h
  rw [dropX_eq] at h
  by_cases ho : ti.d = .other
  · rw [ho] at h; simp [isOther] at h
  · have hno : isOther ti.d = false := by cases hd : ti.d <;> first | rfl | exact absurd hd ho
    rw [hno] at h
    simp only [cond_false] at h
    have hag := K.run_isAgg ho w
    cases hb : isAggT ti.d with
    | true =>
      rw [hb] at h hag
      simp only [cond_true] at h
      obtain ⟨l, hl, rfl⟩ := aggO_some h
      obtain ⟨rfl, hlen⟩ := takeX_some hl
      refine ⟨?_, ?_⟩
      · simp only [part, Sem.run_bind, hag, Result.andThen_ok, if_true, K.run_sizeOf, Sem.run_pure, conc]
        congr 2
        apply Array.ext'
        simp [List.drop_take]
      · intro D hD
        simp only [inD]
        intro u hu
        have hu' : u ∈ (cs.drop off).take ti.size := by simpa using hu
        exact hD u (List.mem_of_mem_drop (List.mem_of_mem_take hu'))
    | false =>
      rw [hb] at h hag
      simp only [cond_false] at h
      obtain ⟨h1, _⟩ := takeX_some (oneO_some h)
      have hv : cs[off]? = some v := by
        have h2 : ((cs.drop off).take 1)[0]? = some v := by rw [← h1]; rfl
        rw [List.getElem?_take_of_lt (by omega), List.getElem?_drop] at h2
        exact h2
      refine ⟨?_, fun D hD => hD v (List.mem_of_getElem? hv)⟩
      have : (cs.map (conc ι)).toArray[off]? = some (conc ι v) := by simp [hv]
      simp only [part, Sem.run_bind, hag, Result.andThen_ok, Bool.false_eq_true, if_false, this, Sem.run_pure]
theorem upI_conc {ι : Io} {g : Hp} {n : Nat} (hf : g n = none) (L : Loc) {v : Value} (hv : inD (roomy ι g) v) : conc (upI ι n L) v = conc ι v :=
  conc_congr (D := roomy ι g) (fun i k hi => upI_ne _ _ _ (ne_of_hdom hf hi.1)) v hv
theorem upI_map {ι : Io} {g : Hp} {n : Nat} (hf : g n = none) (L : Loc) {l : List Value} (hv : ∀ v ∈ l, inD (roomy ι g) v) : l.map (conc (upI ι n L)) = l.map (conc ι) :=
  List.map_congr_left fun v h => upI_conc hf L (hv v h)
theorem Ext.newCells {ι : Io} {g : Hp} {w : World} (G : Good tb ι g w) {n : Nat} (hf : g n = none) (c : List Value) (e : TypeId) (M : List Nat) (hin : ∀ v ∈ c, inD (roomy ι g) v) :
    Ext tb ι g w (upI ι n ⟨w.heap.size, 0, c.length⟩) (hset g n (.cells c .exact)) { w with heap := w.heap.push (.cells (c.map (conc ι)).toArray e) } M := by
  refine Ext.alloc G hf _ _ _ M hin rfl rfl rfl (by simp) (fun b hb => ?_) (.inr rfl) ⟨rfl, rfl, e, (0, 0), ?_, rfl⟩
  · simp only [Array.getElem?_push]
    rw [if_neg (by omega)]
  · rw [upI_map hf _ hin]
    simp
theorem new_q {s : St} {D : (Nat → Nat → Prop) → Prop} {X : Io → Sem Value} {c : List Value} {e : TypeId} (hD : ∀ d, D d → ∀ v ∈ c, inD d v)
    (hX : ∀ ι w, (X ι).run P w = .ok (.pointer (some ⟨w.heap.size, 0, none⟩)) { w with heap := w.heap.push (.cells (c.map (conc ι)).toArray e) }) :
    QSem P tb s (s.alloc (.cells c .exact)) [] D X (.pointer (some ⟨s.next, 0, none⟩)) := by
  refine QSem.new fun ι g w G _ hd hn => ⟨_, _, ?_, Ext.newCells G hn c e [] (hD _ hd), by simp only [inD]; exact ⟨hdom_of (hset_self _ _ _), Nat.zero_le _⟩⟩
  rw [hX]
  simp only [conc, addrC, upI_self]
theorem box_q {s : St} (t : TypeId) (v : Value) :
    QSem P tb s (s.alloc (.cells v.cells.toList .exact)) [] (fun D => inD D v) (fun ι => Instr.box t (conc ι v)) (.pointer (some ⟨s.next, 0, none⟩)) := by
  refine new_q (e := t) (fun d hd => inD_cells hd) fun ι w => ?_
  simp only [Instr.box, newVar, newRow, Sem.run_bind, run_newObj, Result.andThen_ok, Sem.run_pure]
  rw [cells_conc]
  congr 4
  apply Array.ext'
  simp
theorem alloc_q {s : St} {t : TypeId} {ti : TI} (K : TyOk P t ti) :
    QSem P tb s (s.alloc (.cells ti.zero.cells.toList .exact)) [] (fun _ => True) (fun _ => Instr.alloc t true (.tuple #[])) (.pointer (some ⟨s.next, 0, none⟩)) := by
  refine new_q (e := t) (fun d _ => inD_cells (inD_False K.zero)) fun ι w => ?_
  have hz := K.run_zero w
  have hc : ti.zero.cells.toList.map (conc ι) = ti.zero.cells.toList := by
    exact (List.map_congr_left (g := fun v => v) fun v hv => conc_zero ι (inD_cells K.zero v hv)).trans (by simp)
  simp only [Instr.alloc, newVar, newRow, Sem.run_bind, hz, run_newObj, Result.andThen_ok, Sem.run_pure, hc]
theorem load_q {s : St} {t : TypeId} {ti : TI} (K : TyOk P t ti) {a : Addr} {v : Value} (h : loadT ti s a = some v) :
    QSem P tb s s [a.block] (fun D => inD D (.pointer (some a))) (fun ι => Instr.loadAt t (conc ι (.pointer (some a)))) v := by
  refine QSem.same fun ι g w G hr hd => ?_
  rw [loadT_eq] at h
  have hl : loadH ti g a = some v := by rw [loadH_congr (hr a.block (by simp))]; exact h
  obtain ⟨h1, h2⟩ := loadH_spec K G hl
  refine ⟨?_, h2⟩
  simp only [Instr.loadAt, conc, Instr.sureAddr, Sem.run_bind, Sem.run_pure, Result.andThen_ok, h1]
theorem addrC_addA (ι : Io) (a : Addr) (n : Nat) : addrC ι (addA a n) = (addrC ι a).add n := by
  unfold addA
  cases n with
  | zero => simp [Addr.add]
  | succ k => simp [Addr.add, addrC]; omega
theorem block_addA (a : Addr) (n : Nat) : (addA a n).block = a.block := by unfold addA; split <;> rfl
theorem TyOk.field {t : TypeId} {ti : TI} (K : TyOk P t ti) {fs : List (TypeId × Nat)} (hd : ti.d = .struct fs) {f : Nat} {ft : TypeId × Nat} (hf : fs[f]? = some ft) :
    ∃ fields fl, (∀ w, (underlying t).run P w = .ok (.struct fields) w) ∧ P.underlying t = some (.struct fields) ∧ fields[f]? = some fl ∧ fl.type = ft.1 ∧ fl.offset = ft.2 := by
  obtain ⟨d, h1, h0, h2⟩ := K.run_underlying
  rw [hd] at h1
  cases d <;> simp [TDOk] at h1
  rename_i fields
  obtain ⟨h3, h4, h5⟩ := h1
  subst h3
  rw [List.getElem?_map] at hf
  cases hfl : fields.toList[f]? with
  | none => rw [hfl] at hf; simp at hf
  | some fl =>
    rw [hfl] at hf
    simp only [Option.map_some, Option.some.injEq] at hf
    subst hf
    exact ⟨fields, fl, h2, h0, by simpa using hfl, rfl, rfl⟩
theorem fieldAddr_q {s : St} {t : TypeId} {ti : TI} (K : TyOk P t ti) {fs : List (TypeId × Nat)} (hd : ti.d = .struct fs) {f : Nat} {ft : TypeId × Nat} (hf : fs[f]? = some ft) {tf : TI} (KF : TyOk P ft.1 tf) (hz : tf.size ≠ 0) (a : Addr) :
    QSem P tb s s [] (fun D => inD D (.pointer (some a))) (fun ι => Instr.fieldAt t (conc ι (.pointer (some a))) f) (.pointer (some (addA a ft.2))) := by
  obtain ⟨fields, fl, h2, _, hfl, e1, e2⟩ := K.field hd hf
  refine QSem.same fun ι g w G _ hv => ⟨?_, ?_⟩
  · simp only [Instr.fieldAt, Sem.run_bind, h2, Result.andThen_ok, hfl, conc, Instr.sureAddr, Sem.run_pure, fieldPlace, e1, KF.run_sizeOf, hz, if_false]
    rw [e2, addrC_addA]
  · simp only [inD, block_addA] at hv ⊢; exact hv
theorem field_q {s : St} {t : TypeId} {ti : TI} (K : TyOk P t ti) {fs : List (TypeId × Nat)} (hd : ti.d = .struct fs) {f : Nat} {ft : TypeId × Nat} (hf : fs[f]? = some ft) {tf : TI} (KF : TyOk P ft.1 tf)
    {cs : Array Value} {v : Value} (h : partT tf cs.toList ft.2 = some v) :
    QSem P tb s s [] (fun D => inD D (.agg cs)) (fun ι => Instr.field t (conc ι (.agg cs)) f) v := by
  obtain ⟨fields, fl, h2, _, hfl, e1, e2⟩ := K.field hd hf
  refine QSem.same fun ι g w G _ hv => ?_
  obtain ⟨hp, hi⟩ := partT_spec KF ι h w
  have hcs : (cs.toList.map (conc ι)).toArray = cs.map (conc ι) := by apply Array.ext'; simp
  rw [hcs] at hp
  refine ⟨?_, hi _ fun u hu => by simp only [inD] at hv; exact hv u (by simpa using hu)⟩
  simp only [Instr.field, Sem.run_bind, h2, Result.andThen_ok, hfl, conc, asAgg, Sem.run_pure, e1, e2, hp]
end Go.Proofs.Ae
namespace Go.Proofs.Ae
variable {P : Program} {tb : Tb}
theorem valO_some {s s' : St} {o : Option Value} {r : AR} (h : valO s o = some (r, s')) : ∃ v, o = some v ∧ r = .val v ∧ s' = s := by
  cases o with
  | none => cases h
  | some v => cases h; exact ⟨v, rfl, rfl, rfl⟩
theorem valS_some {s' : St} {o : Option (Value × St)} {r : AR} (h : valS o = some (r, s')) : ∃ v, o = some (v, s') ∧ r = .val v := by
  cases o with
  | none => cases h
  | some p => obtain ⟨v, s1⟩ := p; cases h; exact ⟨v, rfl, rfl⟩
theorem skipO_some {s' : St} {o : Option St} {r : AR} (h : skipO o = some (r, s')) : o = some s' ∧ r = .skip := by
  cases o with
  | none => cases h
  | some s1 => cases h; exact ⟨rfl, rfl⟩
def QH (P : Program) (tb : Tb) (s : St) (rd : List Nat) (D : (Nat → Nat → Prop) → Prop) (X : Io → Sem Value) (o : RO) : Prop :=
  ∀ r s', o = some (r, s') → ∃ v, r = .val v ∧ QSem P tb s s' rd D X v
theorem QH.none {s : St} {rd : List Nat} {D : (Nat → Nat → Prop) → Prop} {X : Io → Sem Value} : QH P tb s rd D X none := fun _ _ h => by cases h
theorem QH.val {s s' : St} {rd : List Nat} {D : (Nat → Nat → Prop) → Prop} {X : Io → Sem Value} {v : Value} (h : QSem P tb s s' rd D X v) : QH P tb s rd D X (some (.val v, s')) := fun _ _ e => by cases e; exact ⟨v, rfl, h⟩
theorem alloc_h (TB : TbOk P tb) (s : St) (t : TypeId) : QH P tb s [] (fun _ => True) (fun _ => Instr.alloc t true (.tuple #[])) (allocA s (tb.ty.get t)) := by
  cases ht : tb.ty.get t with
  | none => exact .none
  | some ti => exact .val (alloc_q (TB.ty t ti ht))
theorem box_h (s : St) (t : TypeId) (v : Value) : QH P tb s [] (fun D => inD D v) (fun ι => Instr.box t (conc ι v)) (newA s v.cells.toList) := .val (box_q t v)
theorem load_h (TB : TbOk P tb) (s : St) (t : TypeId) (x : Value) : QH P tb s (ptrB x) (fun D => inD D x) (fun ι => Instr.loadAt t (conc ι x)) (loadA s x (tb.ty.get t)) := by
  cases ht : tb.ty.get t with
  | none => exact .none
  | some ti =>
    intro r s' h
    unfold loadA at h
    simp only at h
    split at h
    · rename_i a
      obtain ⟨v, hv, rfl, rfl⟩ := valO_some h
      exact ⟨v, rfl, load_q (TB.ty t ti ht) hv⟩
    · cases h
theorem fieldAt_some {T : Tr TI} {fs : List (TypeId × Nat)} {i off n : Nat} (h : fieldAt T fs i = some (off, n)) : ∃ ft tf, fs[i]? = some ft ∧ T.get ft.1 = some tf ∧ ft.2 = off ∧ tf.size = n := by
  unfold fieldAt at h
  split at h
  · cases h
  · rename_i f hf
    split at h
    · cases h
    · rename_i tf htf; cases h; exact ⟨f, tf, hf, htf, rfl, rfl⟩
theorem fieldAddr_h (TB : TbOk P tb) (s : St) (t : TypeId) (x : Value) (f : Nat) : QH P tb s [] (fun D => inD D x) (fun ι => Instr.fieldAt t (conc ι x) f) (fieldAddrA tb.ty s x f (tb.ty.get t)) := by
  cases ht : tb.ty.get t with
  | none => exact .none
  | some ti =>
    intro r s' h
    unfold fieldAddrA at h
    simp only at h
    split at h
    · rename_i fs a hd
      split at h
      · rename_i off n hf
        obtain ⟨ft, tf, h1, h2, rfl, rfl⟩ := fieldAt_some hf
        cases hz : Nat.beq tf.size 0 with
        | true => rw [hz] at h; cases h
        | false =>
          rw [hz] at h
          simp only [cond_false, Option.some.injEq, Prod.mk.injEq] at h
          obtain ⟨rfl, rfl⟩ := h
          exact ⟨_, rfl, fieldAddr_q (TB.ty t ti ht) hd h1 (TB.ty _ _ h2) (by intro e; rw [e] at hz; cases hz) a⟩
      · cases h
    · cases h
theorem field_h (TB : TbOk P tb) (s : St) (t : TypeId) (x : Value) (f : Nat) : QH P tb s [] (fun D => inD D x) (fun ι => Instr.field t (conc ι x) f) (fieldA tb.ty s x f (tb.ty.get t)) := by
  cases ht : tb.ty.get t with
  | none => exact .none
  | some ti =>
    intro r s' h
    unfold fieldA at h
    simp only at h
    split at h
    · rename_i fs cs hd
      split at h
      · rename_i ft hf
        split at h
        · rename_i tf htf
          obtain ⟨v, hv, rfl, rfl⟩ := valO_some h
          exact ⟨v, rfl, field_q (TB.ty t ti ht) hd hf (TB.ty _ _ htf) hv⟩
        · cases h
      · cases h
    · cases h
theorem extract_h (s : St) (x : Value) (i : Nat) : QH P tb s [] (fun D => inD D x) (fun ι => Instr.extract (conc ι x) i) (extractA s i x) := by
  intro r s' h
  unfold extractA at h
  split at h
  · rename_i vs
    obtain ⟨v, hv, rfl, rfl⟩ := valO_some h
    refine ⟨v, rfl, QSem.same fun ι g w G _ hd => ?_⟩
    have hv' : vs[i]? = some v := by simpa using hv
    refine ⟨?_, by simp only [inD] at hd; exact hd v (Array.mem_of_getElem? hv')⟩
    simp only [Instr.extract, conc, Array.getElem?_map, hv', Option.map_some]
    rfl
  · cases h
theorem iface_h (TB : TbOk P tb) (s : St) (t : TypeId) (x : Value) : QH P tb s [] (fun D => inD D x) (fun ι => Instr.makeInterface t (conc ι x)) (mkIfaceA s t x (tb.ty.get t)) := by
  cases ht : tb.ty.get t with
  | none => exact .none
  | some ti =>
    intro r s' h
    obtain ⟨d, h1, h0, h2⟩ := (TB.ty t ti ht).run_underlying
    have key : (∀ b, ti.d ≠ .iface b) → ti.d ≠ .other → QSem P tb s s [] (fun D => inD D x) (fun ι => Instr.makeInterface t (conc ι x)) (.iface t x) := by
      intro hi ho
      refine QSem.same fun ι g w G _ hd => ⟨?_, by simp only [inD]; exact hd⟩
      have : (Instr.makeInterface t (conc ι x)).run P w = .ok (.iface t (conc ι x)) w := by
        simp only [Instr.makeInterface, Sem.run_bind, h2, Result.andThen_ok]
        cases hd' : ti.d <;> rw [hd'] at h1 <;> cases d <;> simp [TDOk] at h1 <;> first | rfl | exact absurd hd' (hi _) | exact absurd hd' ho
      rw [this]; simp only [conc]
    unfold mkIfaceA at h
    simp only at h
    split at h
    · cases h
    · cases h
    · rename_i hi ho
      cases h
      exact ⟨_, rfl, key (fun b e => hi b e) ho⟩
theorem nil_h (s : St) (x : Value) : QH P tb s [] (fun D => inD D x) (fun ι => (match conc ι x with
    | .pointer none | .nilIface | .nilFunc => runtimePanic .nilDeref
    | x => pure x)) (nilA s x) := by
  intro r s' h
  unfold nilA at h
  split at h
  · cases h
    exact ⟨_, rfl, QSem.same fun ι g w G _ hd => ⟨by simp only [conc]; rfl, hd⟩⟩
  · cases h
    exact ⟨_, rfl, QSem.same fun ι g w G _ hd => ⟨by simp only [conc, fnC]; rfl, hd⟩⟩
  · cases h
    exact ⟨_, rfl, QSem.same fun ι g w G _ hd => ⟨by simp only [conc, fnC]; rfl, hd⟩⟩
  · cases h
theorem un_h (s : St) (op : UnOp) (x : Value) : QH P tb s [] (fun _ => True) (fun ι => Op.unary op (conc ι x)) (valO s (unA op x)) := by
  intro r s' h
  obtain ⟨v, hv, rfl, rfl⟩ := valO_some h
  refine ⟨v, rfl, QSem.same fun ι g w G _ _ => ?_⟩
  unfold unA at hv
  split at hv
  · cases hv; exact ⟨by simp only [conc]; rfl, by simp only [inD]⟩
  · cases hv; exact ⟨by simp only [conc]; rfl, by simp only [inD]⟩
  · cases hv; exact ⟨by simp only [conc]; rfl, by simp only [inD]⟩
  · cases hv
theorem assert_h (TB : TbOk P tb) (s : St) (u t : TypeId) (ok : Bool) (x : Value) : QH P tb s [] (fun D => inD D x) (fun ι => Instr.typeAssert (conc ι x) u t ok) (assertA s t ok x (tb.ty.get t)) := by
  cases ht : tb.ty.get t with
  | none => exact .none
  | some ti =>
    have K := TB.ty t ti ht
    intro r s' h
    obtain ⟨d, h1, h0, h2⟩ := K.run_underlying
    unfold assertA at h
    simp only at h
    have hzero : ∀ ι, conc ι ti.zero = ti.zero := fun ι => conc_zero ι K.zero
    split at h
    · cases h
    · cases h
    · rename_i hi ho
      have hni : ∀ ms, d ≠ .interface ms := by
        intro ms e
        subst e
        cases hd' : ti.d <;> rw [hd'] at h1 <;> simp [TDOk] at h1
        · exact absurd hd' (hi _)
        · exact absurd hd' ho
      split at h
      · cases ok with
        | false => simp at h
        | true =>
          simp only [cond_true, Option.some.injEq, Prod.mk.injEq] at h
          obtain ⟨rfl, rfl⟩ := h
          refine ⟨_, rfl, QSem.same fun ι g w G _ _ => ⟨?_, ?_⟩⟩
          · simp only [Instr.typeAssert, Sem.run_bind, h2, Result.andThen_ok, conc]
            cases d <;> first | exact absurd rfl (hni _) | simp [Sem.run_bind, K.run_zero, hzero, conc]
          · simp only [inD]; intro v hv; simp at hv; rcases hv with rfl | rfl
            · exact inD_False K.zero
            · simp only [inD]
      · rename_i u' v
        cases hb : Nat.beq u' t with
        | true =>
          have hut := Nat.eq_of_beq_eq_true hb
          subst hut
          rw [hb] at h
          simp only [cond_true, Option.some.injEq, Prod.mk.injEq] at h
          obtain ⟨rfl, rfl⟩ := h
          refine ⟨_, rfl, QSem.same fun ι g w G _ hd => ⟨?_, ?_⟩⟩
          · simp only [Instr.typeAssert, Sem.run_bind, h2, Result.andThen_ok, conc]
            cases ok <;> cases d <;> first | exact absurd rfl (hni _) | simp [conc]
          · simp only [inD] at hd
            cases ok with
            | false => exact hd
            | true => simp only [cond_true, inD]; intro v' hv; simp at hv; rcases hv with rfl | rfl
                      · exact hd
                      · simp only [inD]
        | false =>
          have hut : u' ≠ t := fun e => by subst e; rw [Nat.beq_refl] at hb; cases hb
          rw [hb] at h
          cases ok with
          | false => simp at h
          | true =>
            simp only [cond_false, cond_true, Option.some.injEq, Prod.mk.injEq] at h
            obtain ⟨rfl, rfl⟩ := h
            refine ⟨_, rfl, QSem.same fun ι g w G _ _ => ⟨?_, ?_⟩⟩
            · simp only [Instr.typeAssert, Sem.run_bind, h2, Result.andThen_ok, conc]
              cases d <;> first | exact absurd rfl (hni _) | simp [hut, Sem.run_bind, K.run_zero, hzero, conc]
            · simp only [inD]; intro v hv; simp at hv; rcases hv with rfl | rfl
              · exact inD_False K.zero
              · simp only [inD]
      · cases h
end Go.Proofs.Ae
namespace Go.Proofs.Ae
theorem wrap_in (k : IntKind) (n : Nat) (h : n ≤ kmax k) : k.wrap (Int.ofNat n) = Int.ofNat n := by
  have hn : (Int.ofNat n) = (n : Int) := rfl
  rw [hn]
  cases k <;> simp only [kmax] at h <;> simp only [IntKind.wrap, IntKind.bits, IntKind.signed, Bool.true_and, Bool.false_and, Bool.false_eq_true, if_false, decide_eq_true_eq, ge_iff_le] <;>
    first
      | (split <;> omega)
      | omega
theorem wrapN_eq (k : IntKind) (n : Nat) : wrapN k n = k.wrap (Int.ofNat n) := by
  unfold wrapN
  cases h : Nat.ble n (kmax k) with
  | true => simp only [cond_true]; rw [wrap_in k n (Nat.le_of_ble_eq_true h)]
  | false => rfl
theorem addI_eq (k : IntKind) (a b : Int) : addI k a b = k.wrap (a + b) := by
  unfold addI
  split
  · rw [wrapN_eq]; rfl
  · rfl
theorem subI_eq (k : IntKind) (a b : Int) : subI k a b = k.wrap (a - b) := by
  unfold subI
  split
  · rename_i x y
    cases h : Nat.ble y x with
    | true =>
      simp only [cond_true]
      rw [wrapN_eq]
      congr 1
      have := Nat.le_of_ble_eq_true h
      simp only [Int.ofNat_eq_natCast]
      omega
    | false => rfl
  · rfl
theorem mulI_eq (k : IntKind) (a b : Int) : mulI k a b = k.wrap (a * b) := by
  unfold mulI
  split
  · rw [wrapN_eq]; rfl
  · rfl
theorem kmax_lt (k : IntKind) : kmax k < 2 ^ k.bits := by cases k <;> decide
theorem kmax_pow (k : IntKind) : ∃ m, kmax k + 1 = 2 ^ m := by
  cases k
  · exact ⟨7, rfl⟩
  · exact ⟨15, rfl⟩
  · exact ⟨31, rfl⟩
  · exact ⟨63, rfl⟩
  · exact ⟨8, rfl⟩
  · exact ⟨16, rfl⟩
  · exact ⟨32, rfl⟩
  · exact ⟨64, rfl⟩
theorem ofInt_toNat (k : IntKind) (x : Nat) (h : x ≤ kmax k) : (BitVec.ofInt k.bits (Int.ofNat x)).toNat = x := by
  have hl := kmax_lt k
  rw [Int.ofNat_eq_natCast, BitVec.ofInt_natCast, BitVec.toNat_ofNat]
  exact Nat.mod_eq_of_lt (by omega)
theorem and_eq (k : IntKind) (a b : Int) : bitI k Nat.land (· &&& ·) a b = k.wrap (BitVec.ofInt k.bits a &&& BitVec.ofInt k.bits b).toNat := by
  unfold bitI
  split
  · rename_i x y
    cases h : Nat.ble x (kmax k) && Nat.ble y (kmax k) with
    | true =>
      simp only [Bool.and_eq_true] at h
      have hx := Nat.le_of_ble_eq_true h.1
      have hy := Nat.le_of_ble_eq_true h.2
      simp only [cond_true]
      rw [BitVec.toNat_and, ofInt_toNat k x hx, ofInt_toNat k y hy]
      have : x &&& y ≤ kmax k := Nat.le_trans Nat.and_le_left hx
      exact (wrap_in k (x &&& y) this).symm
    | false => rfl
  · rfl
theorem or_eq (k : IntKind) (a b : Int) : bitI k Nat.lor (· ||| ·) a b = k.wrap (BitVec.ofInt k.bits a ||| BitVec.ofInt k.bits b).toNat := by
  unfold bitI
  split
  · rename_i x y
    cases h : Nat.ble x (kmax k) && Nat.ble y (kmax k) with
    | true =>
      simp only [Bool.and_eq_true] at h
      have hx := Nat.le_of_ble_eq_true h.1
      have hy := Nat.le_of_ble_eq_true h.2
      simp only [cond_true]
      rw [BitVec.toNat_or, ofInt_toNat k x hx, ofInt_toNat k y hy]
      obtain ⟨m, hm⟩ := kmax_pow k
      have : x ||| y < 2 ^ m := Nat.or_lt_two_pow (by omega) (by omega)
      exact (wrap_in k (x ||| y) (by omega)).symm
    | false => rfl
  · rfl
theorem xor_eq (k : IntKind) (a b : Int) : bitI k Nat.xor (· ^^^ ·) a b = k.wrap (BitVec.ofInt k.bits a ^^^ BitVec.ofInt k.bits b).toNat := by
  unfold bitI
  split
  · rename_i x y
    cases h : Nat.ble x (kmax k) && Nat.ble y (kmax k) with
    | true =>
      simp only [Bool.and_eq_true] at h
      have hx := Nat.le_of_ble_eq_true h.1
      have hy := Nat.le_of_ble_eq_true h.2
      simp only [cond_true]
      rw [BitVec.toNat_xor, ofInt_toNat k x hx, ofInt_toNat k y hy]
      obtain ⟨m, hm⟩ := kmax_pow k
      have : x ^^^ y < 2 ^ m := Nat.xor_lt_two_pow (by omega) (by omega)
      exact (wrap_in k (x ^^^ y) (by omega)).symm
    | false => rfl
  · rfl
theorem eqI_eq (a b : Int) : eqI a b = (a == b) := by
  unfold eqI
  split
  · rename_i x y
    cases h : Nat.beq x y with
    | true => have := Nat.eq_of_beq_eq_true h; subst this; simp
    | false =>
      have : x ≠ y := fun e => by subst e; rw [Nat.beq_refl] at h; cases h
      simp; omega
  · rfl
theorem ltI_eq (a b : Int) : ltI a b = decide (a < b) := by
  unfold ltI
  split
  · rename_i x y
    cases h : Nat.ble (x + 1) y with
    | true => have := Nat.le_of_ble_eq_true h; symm; simp only [Int.ofNat_eq_natCast, decide_eq_true_eq]; omega
    | false =>
      have : ¬ x + 1 ≤ y := fun e => by rw [Nat.ble_eq_true_of_le e] at h; cases h
      symm; simp only [Int.ofNat_eq_natCast, decide_eq_false_iff_not]; omega
  · rfl
theorem shlI_eq (k : IntKind) (a b : Int) : shlI k a b = k.wrap (a * 2 ^ (min b.toNat k.bits)) := by
  unfold shlI
  split
  · rename_i x y
    rw [wrapN_eq]
    congr 1
    all_goals try simp only [Int.ofNat_eq_natCast, Int.toNat_natCast]
    all_goals try push_cast
    all_goals try rfl
  · rfl
theorem shrI_eq (k : IntKind) (a b : Int) : shrI k a b = a.fdiv (2 ^ (min b.toNat k.bits)) := by
  unfold shrI
  split
  · rename_i x y
    simp only [Int.ofNat_eq_natCast, Int.toNat_natCast]
    rw [Int.fdiv_eq_ediv_of_nonneg _ (by exact Int.le_of_lt (Int.pow_pos (by omega)))]
    all_goals try push_cast
    all_goals try rfl
  · rfl
theorem zeroB_eq (b : Int) : zeroB b = decide (b = 0) := by
  unfold zeroB
  split
  · rename_i n
    cases n with
    | zero => rfl
    | succ n =>
      have h : ¬ (Int.ofNat (n + 1) = 0) := by simp only [Int.ofNat_eq_natCast]; omega
      rw [decide_eq_false h]; rfl
  · rename_i n
    have h : ¬ (Int.negSucc n = 0) := by omega
    rw [decide_eq_false h]
theorem negB_eq (b : Int) : negB b = decide (b < 0) := by
  unfold negB
  split
  · rename_i n; simp
  · rename_i n; simp [Int.negSucc_lt_zero]
theorem quoI_eq (k : IntKind) (a b : Int) : quoI k a b = k.wrap (a.tdiv b) := by
  unfold quoI
  split
  · rw [wrapN_eq]; rfl
  · rfl
theorem remI_eq (a b : Int) : remI a b = a.tmod b := by
  unfold remI
  split <;> rfl
end Go.Proofs.Ae
namespace Go.Proofs.Ae
variable {P : Program} {tb : Tb}
theorem strEq_beq (a b : ByteArray) : strEq a b = (a == b) := by
  rw [beq_toListBytes, Go.ByteArray.toList_eq, Go.ByteArray.toList_eq]; rfl
theorem fieldsEq_spec (TB : TbOk P tb) {eq : TypeId → Value → Value → Option Bool} {d : Nat} {ι : Io} {w : World}
    (heq : ∀ t x y b, eq t x y = some b → (Op.equalIn d t (conc ι x) (conc ι y)).run P w = .ok b w) (xs ys : List Value) : ∀ (fs : List Field) (b : Bool), (∀ f ∈ fs, (f.name == "_") = false) →
    fieldsEq tb.ty eq xs ys (fs.map fun f => (f.type, f.offset)) = some b → (Op.eqFields d (xs.map (conc ι)).toArray (ys.map (conc ι)).toArray fs).run P w = .ok b w
  | [], b, _, h => by cases h; rfl
  | f :: fs, b, hn, h => by
    have hname : f.name ≠ "_" := by have := hn f (by simp); simpa using this
    change (match tb.ty.get f.type with
      | none => none
      | some tf => match partT tf xs f.offset, partT tf ys f.offset with
        | some u, some v => match eq f.type u v with
          | some true => fieldsEq tb.ty eq xs ys (fs.map fun f => (f.type, f.offset))
          | some false => some false
          | none => none
        | _, _ => none) = some b at h
    split at h
    · cases h
    · rename_i tf htf
      split at h
      · rename_i u v hu hv
        obtain ⟨pu, _⟩ := partT_spec (TB.ty _ _ htf) ι hu w
        obtain ⟨pv, _⟩ := partT_spec (TB.ty _ _ htf) ι hv w
        split at h
        · rename_i he
          simp only [Op.eqFields, ne_eq, hname, not_false_eq_true, if_true, Sem.run_bind, pu, pv, Result.andThen_ok, heq _ _ _ _ he, Bool.not_true, Bool.false_eq_true, if_false]
          exact fieldsEq_spec TB heq xs ys fs b (fun g hg => hn g (by simp [hg])) h
        · rename_i he
          cases h
          simp only [Op.eqFields, ne_eq, hname, not_false_eq_true, if_true, Sem.run_bind, pu, pv, Result.andThen_ok, heq _ _ _ _ he, Bool.not_false, Sem.run_pure]
        · cases h
      · cases h
theorem eqV_spec (TB : TbOk P tb) (ι : Io) (w : World) : ∀ (n : Nat) (t : TypeId) (x y : Value) (b : Bool), eqV tb.ty n t x y = some b → ∀ d, n ≤ d → (Op.equalIn d t (conc ι x) (conc ι y)).run P w = .ok b w
  | 0, t, x, y, b, h, d, hd => by cases h
  | n + 1, t, x, y, b, h, d, hd => by
    obtain ⟨d, rfl⟩ : ∃ e, d = e + 1 := ⟨d - 1, by omega⟩
    change (match tb.ty.get t with
      | none => none
      | some ti => eqStep tb.ty (eqV tb.ty n) ti x y) = some b at h
    split at h
    · cases h
    · rename_i ti ht
      have K := TB.ty t ti ht
      obtain ⟨ds, h1, h0, h2⟩ := K.run_underlying
      unfold eqStep at h
      split at h
      · rename_i e1
        rw [e1] at h1
        cases ds <;> simp [TDOk] at h1
        cases h
        simp [Op.equalIn, h2, conc]
      · rename_i e1
        rw [e1] at h1
        cases ds <;> simp [TDOk] at h1
        rename_i k a k' b' kd
        cases hk : decide (k = k') with
        | false => rw [hk] at h; cases h
        | true =>
          rw [hk] at h
          simp only [cond_true, Option.some.injEq] at h
          subst h
          simp [Op.equalIn, h2, conc, of_decide_eq_true hk, eqI_eq]
      · rename_i e1
        rw [e1] at h1
        cases ds <;> simp [TDOk] at h1
        cases h
        simp [Op.equalIn, h2, conc, strEq_beq]
      · rename_i e1
        rw [e1] at h1
        cases ds <;> simp [TDOk] at h1
        rename Option Addr => b'
        cases h
        cases b' <;> simp [Op.equalIn, h2, conc]
      · rename_i e1
        rw [e1] at h1
        cases ds <;> simp [TDOk] at h1
        rename Option Addr => x'
        cases h
        cases x' with
        | none => simp_all
        | some a => simp [Op.equalIn, h2, conc]
      · rename_i e1
        rw [e1] at h1
        cases ds <;> simp [TDOk] at h1
        cases h
        simp [Op.equalIn, h2, conc]
      · rename_i e1
        rw [e1] at h1
        cases ds <;> simp [TDOk] at h1
        cases h
        simp [Op.equalIn, h2, conc]
      · rename_i e1
        rw [e1] at h1
        cases ds <;> simp [TDOk] at h1
        rename_i tx vx ty' vy _
        cases hb : Nat.beq tx ty' with
        | false =>
          rw [hb] at h
          simp only [cond_false, Option.some.injEq] at h
          subst h
          have hne : tx ≠ ty' := fun e => by subst e; rw [Nat.beq_refl] at hb; cases hb
          simp [Op.equalIn, h2, conc, hne]
        | true =>
          have := Nat.eq_of_beq_eq_true hb
          subst this
          rw [hb] at h
          simp only [cond_true] at h
          split at h
          · rename_i ux hux
            cases hc : ux.comp with
            | false => rw [hc] at h; cases h
            | true =>
              rw [hc] at h
              simp only [cond_true] at h
              obtain ⟨f, hf, _, _, _, hcomp⟩ := (TB.ty _ _ hux).run_info w
              have ih := eqV_spec TB ι w n _ _ _ _ h d (by omega)
              simp only [Op.equalIn, Sem.run_bind, h2, Result.andThen_ok, conc, ne_eq, not_true_eq_false, if_false, hf, hcomp, hc, Bool.not_true, Bool.false_eq_true]
              exact ih
          · cases h
      · rename_i fs xs ys e1
        rw [e1] at h1
        cases ds <;> simp [TDOk] at h1
        rename_i fields
        obtain ⟨h3, h4, h5⟩ := h1
        cases he : ti.eqs with
        | false => rw [he] at h; cases h
        | true =>
          rw [he] at h
          simp only [cond_true] at h
          have hfl : P.fieldsOf t = fields := by unfold Program.fieldsOf; rw [h0]
          have key := run_equalIn_struct (P := P) w d t (xs.map (conc ι)) (ys.map (conc ι)) (by rw [hfl]; exact h0) (K.eqs he).1
          rw [h3] at h
          have := fieldsEq_spec TB (ι := ι) (w := w) (d := d) (fun t x y b hh => eqV_spec TB ι w n t x y b hh d (by omega)) xs.toList ys.toList fields.toList b (fun f hf => by simpa using h4 f (by simpa using hf)) h
          simp only [conc]
          rw [key, hfl, ← this]
          congr 2
          · apply Array.ext'; simp
          · apply Array.ext'; simp
      · rename_i e1
        rw [e1] at h1
        cases ds <;> simp [TDOk] at h1
        rename Option Addr => b'
        cases h
        cases b' <;> simp [Op.equalIn, h2, conc]
      · rename_i e1
        rw [e1] at h1
        cases ds <;> simp [TDOk] at h1
        rename Option Addr => a'
        cases h
        cases a' with
        | none => simp_all
        | some a => simp [Op.equalIn, h2, conc]
      · rename_i e1
        rw [e1] at h1
        cases ds <;> simp [TDOk] at h1
        rename Option Nat => b'
        cases h
        cases b' <;> simp [Op.equalIn, h2, conc]
      · rename_i e1
        rw [e1] at h1
        cases ds <;> simp [TDOk] at h1
        rename Option Nat => a'
        cases h
        cases a' with
        | none => simp_all
        | some a => simp [Op.equalIn, h2, conc]
      · rename_i e1
        rw [e1] at h1
        cases ds <;> simp [TDOk] at h1
        cases h
        simp [Op.equalIn, h2, conc]
      · rename_i e1
        rw [e1] at h1
        cases ds <;> simp [TDOk] at h1
        cases h
        simp [Op.equalIn, h2, conc]
      · rename_i e1
        rw [e1] at h1
        cases ds <;> simp [TDOk] at h1
        cases h
        simp [Op.equalIn, h2, conc]
      · cases h
end Go.Proofs.Ae
namespace Go.Proofs.Ae
variable {P : Program} {tb : Tb}
theorem frozen_never {w : World} {b : Nat} {cs : Array Value} {e : TypeId} {fz : Nat × Nat} (h : w.heap[b]? = some (.cells cs e fz)) (hz : fz.2 ≤ fz.1) (a : Addr) (ha : a.block = b) : w.frozen? a = false := by
  obtain ⟨lo, hi⟩ := fz
  subst ha
  simp only [World.frozen?, h]
  simp only at hz
  by_cases h1 : lo ≤ a.off
  · have : ¬ a.off < hi := by omega
    simp [this]
  · simp [h1]
theorem run_sameAddr_apart {w : World} {a b : Addr} {ca cb : Array Value} {ta tb' : TypeId} {fa fb : Nat × Nat} (hne : a.block ≠ b.block) (ha : w.heap[a.block]? = some (.cells ca ta fa)) (hb : w.heap[b.block]? = some (.cells cb tb' fb))
    (hza : fa.2 ≤ fa.1) (hzb : fb.2 ≤ fb.1) : (sameAddr a b).run P w = .ok false w := by
  have f1 := frozen_never ha hza a rfl
  have f2 := frozen_never hb hzb b rfl
  have f3 : ∀ n, w.frozen? ⟨a.block, n, none⟩ = false := fun n => frozen_never ha hza _ rfl
  have f4 : ∀ n, w.frozen? ⟨b.block, n, none⟩ = false := fun n => frozen_never hb hzb _ rfl
  simp [sameAddr, hne, f1, f2, noView, viewAt, World.shape?, ha, hb, mayBeOne, stringish, f3, f4]
theorem int_spec {op : BinOp} {k : IntKind} {a b : Int} {v : Value} (h : intA op k a b = some v) (k' : IntKind) (hk : (decide (k = k') || shiftB op) = true) (xt : TypeId) (w : World) :
    (binOp op xt (.int k a) (.int k' b)).run P w = .ok v w ∧ ∀ D, inD D v := by
  unfold intA at h
  cases op <;> simp only [shiftB, Bool.or_false, Bool.or_true, decide_eq_true_eq] at hk h
  case add => subst hk; cases h; simp [binOp, Op.intArith, addI_eq, inD]
  case sub => subst hk; cases h; simp [binOp, Op.intArith, subI_eq, inD]
  case mul => subst hk; cases h; simp [binOp, Op.intArith, mulI_eq, inD]
  case quo =>
    subst hk
    rw [zeroB_eq] at h
    by_cases hb : b = 0
    · subst hb; simp at h
    · rw [decide_eq_false hb] at h; cases h; simp [binOp, Op.intDiv, hb, quoI_eq, inD]
  case rem =>
    subst hk
    rw [zeroB_eq] at h
    by_cases hb : b = 0
    · subst hb; simp at h
    · rw [decide_eq_false hb] at h; cases h; simp [binOp, Op.intDiv, hb, remI_eq, inD]
  case and => subst hk; cases h; simp [binOp, Op.intBits, and_eq, inD]
  case or => subst hk; cases h; simp [binOp, Op.intBits, or_eq, inD]
  case xor => subst hk; cases h; simp [binOp, Op.intBits, xor_eq, inD]
  case andNot => subst hk; cases h; simp [binOp, Op.intBits, inD]
  case shl =>
    rw [negB_eq] at h
    by_cases hb : b < 0
    · rw [decide_eq_true hb] at h; cases h
    · rw [decide_eq_false hb] at h; cases h; simp [binOp, Op.shift, hb, shlI_eq, inD]
  case shr =>
    rw [negB_eq] at h
    by_cases hb : b < 0
    · rw [decide_eq_true hb] at h; cases h
    · rw [decide_eq_false hb] at h; cases h; simp [binOp, Op.shift, hb, shrI_eq, inD]
  case eql => subst hk; cases h; simp [binOp, Op.intCmp, eqI_eq, inD]
  case neq => subst hk; cases h; simp [binOp, Op.intCmp, eqI_eq, inD, bne]
  case lss => subst hk; cases h; simp [binOp, Op.intCmp, ltI_eq, inD]
  case leq =>
    subst hk; cases h
    have e : decide (a ≤ b) = !decide (b < a) := by by_cases h : b < a <;> simp [h] <;> omega
    simp [binOp, Op.intCmp, ltI_eq, inD, e]
  case gtr => subst hk; cases h; simp [binOp, Op.intCmp, ltI_eq, inD]
  case geq =>
    subst hk; cases h
    have e : decide (b ≤ a) = !decide (a < b) := by by_cases h : a < b <;> simp [h] <;> omega
    simp [binOp, Op.intCmp, ltI_eq, inD, e]
theorem str_spec {op : BinOp} {a b : ByteArray} {v : Value} (h : strA op a b = some v) (xt : TypeId) (w : World) :
    (binOp op xt (.string a) (.string b)).run P w = .ok v w ∧ ∀ D, inD D v := by
  unfold strA at h
  have hlt : Op.bytesLess a.toList b.toList = strLt a b := by rw [Go.ByteArray.toList_eq, Go.ByteArray.toList_eq]; rfl
  have heq : (a.toList == b.toList) = strEq a b := by rw [Go.ByteArray.toList_eq, Go.ByteArray.toList_eq]; rfl
  cases op <;> simp only at h
  case add =>
    cases hb : Nat.ble (a.data.toList.length + b.data.toList.length) 9223372036854775807 with
    | false => rw [hb] at h; cases h
    | true =>
      rw [hb] at h
      simp only [cond_true, Option.some.injEq] at h
      subst h
      have hle := Nat.le_of_ble_eq_true hb
      have hs : ¬ ((a.size + b.size : Nat) : Int) > IntKind.i64.max := by
        have h1 : a.size = a.data.toList.length := by rw [Array.length_toList]; rfl
        have h2 : b.size = b.data.toList.length := by rw [Array.length_toList]; rfl
        have h3 : IntKind.i64.max = 9223372036854775807 := rfl
        rw [h3]; omega
      have happ : a ++ b = ⟨(a.data.toList ++ b.data.toList).toArray⟩ := by
        obtain ⟨⟨x⟩⟩ := a
        obtain ⟨⟨y⟩⟩ := b
        apply ByteArray.ext
        simp
      refine ⟨?_, fun D => by simp only [inD]⟩
      simp only [binOp, Op.stringOp]
      rw [if_neg hs, happ]; rfl
  case eql => cases h; simp [binOp, Op.stringOp, heq, inD]
  case neq => cases h; simp [binOp, Op.stringOp, heq, inD]
  case lss => cases h; simp [binOp, Op.stringOp, hlt, inD]
  case leq => cases h; simp [binOp, Op.stringOp, hlt, heq, inD]
  case gtr => cases h; simp [binOp, Op.stringOp, hlt, heq, inD]
  case geq => cases h; simp [binOp, Op.stringOp, hlt, inD]
  all_goals cases h
theorem equal_run {ι : Io} {w : World} {t : TypeId} {x y : Value} {b : Bool} (TB : TbOk P tb) (h : eqV tb.ty 40 t x y = some b) : (Op.equal t (conc ι x) (conc ι y)).run P w = .ok b w :=
  eqV_spec TB ι w 40 t x y b h Op.maxDepth (by decide)
theorem eqPtr_some {s : St} {t : TypeId} {a b : Addr} {r : Bool} (h : eqPtr tb.ty s t a b = some r) :
    ∃ ti e te, tb.ty.get t = some ti ∧ ti.d = .pointer e ∧ tb.ty.get e = some te ∧ te.size ≠ 0 ∧ a.spot = none ∧ b.spot = none ∧ eqObj a b (s.get a.block) (s.get b.block) = some r := by
  unfold eqPtr at h
  split at h
  · rename_i ti hti
    split at h
    · rename_i e he
      unfold eqPtrE at h
      split at h
      · rename_i te hte
        cases hz : Nat.beq te.size 0 with
        | true => rw [hz] at h; cases h
        | false =>
          rw [hz] at h
          simp only [cond_false] at h
          split at h
          · rename_i ha hb
            exact ⟨ti, e, te, hti, he, hte, (by intro e; rw [e] at hz; cases hz), ha, hb, h⟩
          · cases h
      · cases h
    · cases h
  · cases h
theorem eqPtr_run (TB : TbOk P tb) {s : St} {t : TypeId} {a b : Addr} {r : Bool} (h : eqPtr tb.ty s t a b = some r) {ι : Io} {g : Hp} {w : World} (G : Good tb ι g w) (ha : g a.block = s.get a.block) (hb : g b.block = s.get b.block) :
    (Op.equal t (.pointer (some (addrC ι a))) (.pointer (some (addrC ι b)))).run P w = .ok r w := by
  obtain ⟨ti, e, te, hti, he, hte, hz, sa, sb, ho⟩ := eqPtr_some h
  obtain ⟨d, h1, h0, h2⟩ := (TB.ty _ _ hti).run_underlying
  rw [he] at h1
  cases d <;> simp [TDOk] at h1
  subst h1
  have hso : (sameAddr (addrC ι a) (addrC ι b)).run P w = .ok r w := by
    unfold eqObj at ho
    split at ho
    · rename_i ca cb hga hgb
      rw [← ha] at hga
      rw [← hb] at hgb
      obtain ⟨oa, _, ea, fa, xa, za⟩ := G.obj _ _ hga
      obtain ⟨ob, _, eb, fb, xb, zb⟩ := G.obj _ _ hgb
      cases hbl : Nat.beq a.block b.block with
      | true =>
        have hbl := Nat.eq_of_beq_eq_true hbl
        rw [hbl] at ho
        simp only [Nat.beq_refl, cond_true, Option.some.injEq] at ho
        subst ho
        have hbb : (addrC ι a).block = (addrC ι b).block := by simp only [addrC, hbl]
        have hcmp : (addrC ι a == addrC ι b) = Nat.beq a.off b.off := by
          cases hq : Nat.beq a.off b.off with
          | true =>
            have hq := Nat.eq_of_beq_eq_true hq
            have : addrC ι a = addrC ι b := by simp only [addrC, hbl, hq, sa, sb]
            rw [this]; simp
          | false =>
            have hne : addrC ι a ≠ addrC ι b := by
              intro e
              have : (addrC ι a).off = (addrC ι b).off := by rw [e]
              simp only [addrC, hbl] at this
              have : a.off = b.off := by omega
              rw [this, Nat.beq_refl] at hq; cases hq
            simpa using hne
        simp [sameAddr, hbb, hcmp]
      | false =>
        rw [hbl] at ho
        simp only [cond_false] at ho
        have hne : a.block ≠ b.block := fun e => by rw [e, Nat.beq_refl] at hbl; cases hbl
        cases hle : Nat.ble ca.length a.off || Nat.ble cb.length b.off with
        | true => rw [hle] at ho; cases ho
        | false =>
          rw [hle] at ho
          simp only [cond_false, Option.some.injEq] at ho
          subst ho
          exact run_sameAddr_apart (G.apart _ _ _ _ hgb hga rfl rfl hne) xa xb (Nat.le_of_eq za.symm) (Nat.le_of_eq zb.symm)
    · cases ho
  have key : ∀ n, (Op.equalIn (n + 1) t (.pointer (some (addrC ι a))) (.pointer (some (addrC ι b)))).run P w = .ok r w := fun n => by
    simp [Op.equalIn, h2, (TB.ty _ _ hte).run_sizeOf, hz, hso]
  exact key 9999
theorem guard_run (TB : TbOk P tb) {s : St} {op : BinOp} {t : TypeId} {xo yo : Operand} {x y : Value} {b : Bool} (h : eqA tb.ty s t xo yo x y = some b) (ι : Io) (w : World) :
    (eqGuard op t xo yo (conc ι x) (conc ι y)).run P w = .ok () w := by
  have key : (op = .eql ∨ op = .neq) → (eqGuard op t xo yo (conc ι x) (conc ι y)).run P w = .ok () w := by
    intro hop
    have hg : eqGuard op t xo yo (conc ι x) (conc ι y) = eqGuard .eql t xo yo (conc ι x) (conc ι y) := by rcases hop with rfl | rfl <;> rfl
    rw [hg]
    unfold eqGuard
    unfold eqA at h
    split at h
    · simp [conc]
    · cases hc : isConstO xo || isConstO yo with
      | false => rw [hc] at h; cases h
      | true =>
        clear h
        cases xo <;> cases yo <;> simp [isConstO] at hc <;> simp [conc]
    · rename_i hn1 hn2
      cases x with
      | agg xs =>
        cases y with
        | agg ys =>
          change (match tb.ty.get t with
            | none => none
            | some ti => eqStep tb.ty (eqV tb.ty 39) ti (.agg xs) (.agg ys)) = some b at h
          split at h
          · cases h
          · rename_i ti hti
            unfold eqStep at h
            split at h <;> first | (simp at *; done) | skip
            all_goals first | cases h | skip
            cases he : ti.eqs with
            | false => rw [he] at h; cases h
            | true =>
              have := ((TB.ty _ _ hti).eqs he).2
              simp [conc, this]
        | pointer b => cases b <;> simp [conc]
        | slice b _ _ => cases b <;> simp [conc]
        | map b => cases b <;> simp [conc]
        | _ => simp [conc]
      | nilIface =>
        cases y with
        | nilIface => exact absurd rfl (fun e => hn2 e rfl)
        | pointer b => cases b <;> simp [conc]
        | slice b _ _ => cases b <;> simp [conc]
        | map b => cases b <;> simp [conc]
        | _ => simp [conc]
      | pointer b => cases b <;> simp [conc]
      | slice b _ _ => cases b <;> simp [conc]
      | map b => cases b <;> simp [conc]
      | _ => simp [conc]
  cases op <;> first | exact key (.inl rfl) | exact key (.inr rfl) | simp [eqGuard]
end Go.Proofs.Ae
namespace Go.Proofs.Ae
variable {P : Program} {tb : Tb}
theorem eqA_run (TB : TbOk P tb) {s : St} {t : TypeId} {xo yo : Operand} {x y : Value} {b : Bool} (h : eqA tb.ty s t xo yo x y = some b) {ι : Io} {g : Hp} {w : World} (G : Good tb ι g w)
    (hr : ∀ i ∈ ptrB x ++ ptrB y, g i = s.get i) : (Op.equal t (conc ι x) (conc ι y)).run P w = .ok b w := by
  unfold eqA at h
  split at h
  · rename_i a b'
    simp only [conc]
    exact eqPtr_run TB h G (hr _ (by simp [ptrB])) (hr _ (by simp [ptrB]))
  · cases hc : (isConstO xo || isConstO yo) && ifaceT tb.ty t with
    | false => rw [hc] at h; cases h
    | true =>
      rw [hc] at h
      simp only [cond_true, Option.some.injEq] at h
      subst h
      simp only [Bool.and_eq_true] at hc
      have h2 := hc.2
      unfold ifaceT at h2
      split at h2
      · rename_i ti hti
        obtain ⟨d, h1, h0, h3⟩ := (TB.ty _ _ hti).run_underlying
        cases hd : ti.d <;> rw [hd] at h2 h1 <;> simp [ifaceD] at h2
        cases d <;> simp [TDOk] at h1
        have key : ∀ n, (Op.equalIn (n + 1) t .nilIface .nilIface).run P w = .ok true w := fun n => by simp [Op.equalIn, h3]
        simp only [conc]
        exact key 9999
      · cases h2
  · exact equal_run TB h
theorem binOp_eql {t : TypeId} {x y : Value} (h1 : ∀ k a k' b, ¬ (x = .int k a ∧ y = .int k' b)) (h2 : ∀ a b, ¬ (x = .string a ∧ y = .string b)) (hf : (∀ k a, x ≠ .float k a)) (hc : ∀ k a b, x ≠ .complex k a b) :
    binOp .eql t x y = (do pure (.bool (← Op.equal t x y))) ∧ binOp .neq t x y = (do pure (.bool (!(← Op.equal t x y)))) := by
  constructor
  · cases x <;> cases y <;> first | rfl | exact absurd ⟨rfl, rfl⟩ (h1 _ _ _ _) | exact absurd ⟨rfl, rfl⟩ (h2 _ _) | exact absurd rfl (hf _ _) | exact absurd rfl (hc _ _ _)
  · cases x <;> cases y <;> first | rfl | exact absurd ⟨rfl, rfl⟩ (h1 _ _ _ _) | exact absurd ⟨rfl, rfl⟩ (h2 _ _) | exact absurd rfl (hf _ _) | exact absurd rfl (hc _ _ _)
theorem bin_h (TB : TbOk P tb) (s : St) (op : BinOp) (t : TypeId) (xo yo : Operand) (x y : Value) :
    QH P tb s (ptrB x ++ ptrB y) (fun _ => True) (fun ι => do eqGuard op t xo yo (conc ι x) (conc ι y); binOp op t (conc ι x) (conc ι y)) (valO s (binA tb.ty s op t xo yo x y)) := by
  intro r s' h
  obtain ⟨v, hv, rfl, rfl⟩ := valO_some h
  refine ⟨v, rfl, QSem.same fun ι g w G hr _ => ?_⟩
  unfold binA at hv
  split at hv
  · rename_i k a k' b
    cases hk : decide (k = k') || shiftB op with
    | false => rw [hk] at hv; cases hv
    | true =>
      rw [hk] at hv
      obtain ⟨h1, h2⟩ := int_spec (P := P) hv k' hk t w
      have hcv : conc ι v = v := conc_zero ι (h2 _)
      refine ⟨?_, h2 _⟩
      have hg : eqGuard op t xo yo (.int k a) (.int k' b) = pure () ∨ True := .inr trivial
      rw [hcv]
      have hguard : (eqGuard op t xo yo (.int k a) (.int k' b)).run P w = .ok () w := by cases op <;> simp [eqGuard]
      simp only [conc, Sem.run_bind, hguard, Result.andThen_ok, h1]
  · rename_i a b
    obtain ⟨h1, h2⟩ := str_spec (P := P) hv t w
    have hcv : conc ι v = v := conc_zero ι (h2 _)
    refine ⟨?_, h2 _⟩
    rw [hcv]
    have hguard : (eqGuard op t xo yo (.string a) (.string b)).run P w = .ok () w := by cases op <;> simp [eqGuard]
    simp only [conc, Sem.run_bind, hguard, Result.andThen_ok, h1]
  · rename_i n1 n2
    have c1 : ∀ k a k' b, ¬ (conc ι x = .int k a ∧ conc ι y = .int k' b) := by
      intro k a k' b ⟨e1, e2⟩
      have e3 : x = .int k a := by cases x with
        | int j c => simpa [conc] using e1
        | pointer p => cases p <;> simp [conc] at e1
        | slice p _ _ => cases p <;> simp [conc] at e1
        | map p => cases p <;> simp [conc] at e1
        | _ => simp [conc] at e1
      have e4 : y = .int k' b := by cases y with
        | int j c => simpa [conc] using e2
        | pointer p => cases p <;> simp [conc] at e2
        | slice p _ _ => cases p <;> simp [conc] at e2
        | map p => cases p <;> simp [conc] at e2
        | _ => simp [conc] at e2
      exact n1 _ _ _ _ e3 e4
    have c2 : ∀ a b, ¬ (conc ι x = .string a ∧ conc ι y = .string b) := by
      intro a b ⟨e1, e2⟩
      have e3 : x = .string a := by cases x with
        | string c => simpa [conc] using e1
        | pointer p => cases p <;> simp [conc] at e1
        | slice p _ _ => cases p <;> simp [conc] at e1
        | map p => cases p <;> simp [conc] at e1
        | _ => simp [conc] at e1
      have e4 : y = .string b := by cases y with
        | string c => simpa [conc] using e2
        | pointer p => cases p <;> simp [conc] at e2
        | slice p _ _ => cases p <;> simp [conc] at e2
        | map p => cases p <;> simp [conc] at e2
        | _ => simp [conc] at e2
      exact n2 _ _ e3 e4
    have c3 : ∀ {b : Bool}, eqA tb.ty s' t xo yo x y = some b → (∀ k a, conc ι x ≠ .float k a) ∧ (∀ k a b, conc ι x ≠ .complex k a b) := by
      intro b hb
      refine ⟨fun k a e => ?_, fun k a b e => ?_⟩
      · have e3 : x = .float k a := by cases x with
          | float j c => simpa [conc] using e
          | pointer p => cases p <;> simp [conc] at e
          | slice p _ _ => cases p <;> simp [conc] at e
          | map p => cases p <;> simp [conc] at e
          | _ => simp [conc] at e
        subst e3
        change (match tb.ty.get t with
            | none => none
            | some ti => eqStep tb.ty (eqV tb.ty 39) ti (.float k a) y) = some b at hb
        split at hb
        · cases hb
        · unfold eqStep at hb
          split at hb <;> simp_all
      · have e3 : x = .complex k a b := by cases x with
          | complex j c d => simpa [conc] using e
          | pointer p => cases p <;> simp [conc] at e
          | slice p _ _ => cases p <;> simp [conc] at e
          | map p => cases p <;> simp [conc] at e
          | _ => simp [conc] at e
        subst e3
        change (match tb.ty.get t with
            | none => none
            | some ti => eqStep tb.ty (eqV tb.ty 39) ti (.complex k a b) y) = some _ at hb
        split at hb
        · cases hb
        · unfold eqStep at hb
          split at hb <;> simp_all
    split at hv
    · cases hb : eqA tb.ty s' t xo yo x y with
      | none => rw [hb] at hv; cases hv
      | some b =>
        rw [hb] at hv
        cases hv
        obtain ⟨f1, f2⟩ := c3 hb
        refine ⟨?_, by simp only [inD]⟩
        rw [(binOp_eql c1 c2 f1 f2).1]
        simp only [Sem.run_bind, guard_run TB hb, Result.andThen_ok, eqA_run TB hb G hr, Sem.run_pure, conc]
    · cases hb : eqA tb.ty s' t xo yo x y with
      | none => rw [hb] at hv; cases hv
      | some b =>
        rw [hb] at hv
        cases hv
        obtain ⟨f1, f2⟩ := c3 hb
        refine ⟨?_, by simp only [inD]⟩
        rw [(binOp_eql c1 c2 f1 f2).2]
        simp only [Sem.run_bind, guard_run TB hb, Result.andThen_ok, eqA_run TB hb G hr, Sem.run_pure, conc]
    · cases hv
end Go.Proofs.Ae
namespace Go.Proofs.Ae
variable {P : Program} {tb : Tb}
theorem idxTo_some {s s' : St} {a : Addr} {i : Int} {n : Nat} {o : Option TI} {r : AR} (h : idxTo s a i n o = some (r, s')) :
    ∃ te j, o = some te ∧ i = Int.ofNat j ∧ j + 1 ≤ n ∧ r = .val (.pointer (some (addA a (j * te.size)))) ∧ s' = s := by
  unfold idxTo at h
  split at h
  · rename_i te
    split at h
    · rename_i j
      cases hb : Nat.ble (j + 1) n with
      | false => rw [hb] at h; cases h
      | true =>
        rw [hb] at h
        simp only [cond_true, Option.some.injEq, Prod.mk.injEq] at h
        exact ⟨te, j, rfl, rfl, Nat.le_of_ble_eq_true hb, h.1.symm, h.2.symm⟩
    · cases h
  · cases h
theorem indexAddr_h (TB : TbOk P tb) (s : St) (t : TypeId) (x i : Value) : QH P tb s [] (fun D => inD D x) (fun ι => Instr.indexAt t (conc ι x) (conc ι i)) (indexAddrA tb.ty s x i (tb.ty.get t)) := by
  cases ht : tb.ty.get t with
  | none => exact .none
  | some ti =>
    intro r s' h
    obtain ⟨d, h1, h0, h2⟩ := (TB.ty t ti ht).run_underlying
    unfold indexAddrA at h
    simp only at h
    split at h
    · rename_i k i
      split at h
      · rename_i n e a hd
        obtain ⟨te, j, hte, rfl, hj, rfl, rfl⟩ := idxTo_some h
        rw [hd] at h1
        cases d <;> simp [TDOk] at h1
        obtain ⟨rfl, rfl⟩ := h1
        refine ⟨_, rfl, QSem.same fun ι g w G _ hv => ⟨?_, by simp only [inD, block_addA] at hv ⊢; exact hv⟩⟩
        have hlt := Nat.not_le.2 (show j < _ from hj)
        simp only [Instr.indexAt, conc, asIntOf, Sem.run_bind, Sem.run_pure, Result.andThen_ok, h2, Instr.sureAddr, addrC_addA, (TB.ty _ _ hte).run_sizeOf]
        simp [hlt, (TB.ty _ _ hte).run_sizeOf]
      · rename_i e a n c hd
        obtain ⟨te, j, hte, rfl, hj, rfl, rfl⟩ := idxTo_some h
        rw [hd] at h1
        cases d <;> simp [TDOk] at h1
        subst h1
        refine ⟨_, rfl, QSem.same fun ι g w G _ hv => ⟨?_, by simp only [inD, block_addA] at hv ⊢; exact ⟨hv.1, Nat.zero_le _⟩⟩⟩
        have hlt := Nat.not_le.2 (show j < _ from hj)
        simp only [Instr.indexAt, conc, asIntOf, Sem.run_bind, Sem.run_pure, Result.andThen_ok, h2, Instr.sureAddr, addrC_addA, (TB.ty _ _ hte).run_sizeOf]
        simp [hlt, (TB.ty _ _ hte).run_sizeOf]
      · cases h
    · cases h
theorem index_h (TB : TbOk P tb) (s : St) (t : TypeId) (x i : Value) : QH P tb s [] (fun D => inD D x) (fun ι => Instr.index t (conc ι x) (conc ι i)) (indexA tb.ty s x i (tb.ty.get t)) := by
  cases ht : tb.ty.get t with
  | none => exact .none
  | some ti =>
    intro r s' h
    obtain ⟨d, h1, h0, h2⟩ := (TB.ty t ti ht).run_underlying
    unfold indexA at h
    simp only at h
    split at h
    · rename_i k i
      split at h
      · rename_i n e cs hd
        split at h
        · rename_i te hte
          split at h
          · rename_i j
            cases hb : Nat.ble (j + 1) n with
            | false => rw [hb] at h; cases h
            | true =>
              rw [hb] at h
              simp only [cond_true] at h
              obtain ⟨v, hv, rfl, rfl⟩ := valO_some h
              have hj := Nat.le_of_ble_eq_true hb
              rw [hd] at h1
              cases d <;> simp [TDOk] at h1
              obtain ⟨rfl, rfl⟩ := h1
              refine ⟨v, rfl, QSem.same fun ι g w G _ hx => ?_⟩
              obtain ⟨hp, hi⟩ := partT_spec (TB.ty _ _ hte) ι hv w
              have hcs : (cs.toList.map (conc ι)).toArray = cs.map (conc ι) := by apply Array.ext'; simp
              rw [hcs] at hp
              refine ⟨?_, hi _ fun u hu => by simp only [inD] at hx; exact hx u (by simpa using hu)⟩
              have hlt := Nat.not_le.2 (show j < _ from hj)
              simp only [Instr.index, conc, asIntOf, Sem.run_bind, Sem.run_pure, Result.andThen_ok, h2]
              simp [hlt, (TB.ty _ _ hte).run_sizeOf, hp]
          · cases h
        · cases h
      · rename_i b hd
        split at h
        · rename_i j
          split at h
          · rename_i c hc
            cases h
            rw [hd] at h1
            cases d <;> simp [TDOk] at h1
            refine ⟨_, rfl, QSem.same fun ι g w G _ _ => ⟨?_, by simp only [inD]⟩⟩
            have hc' : b[j]? = some c := by
              obtain ⟨h3, h4⟩ := List.getElem?_eq_some_iff.1 hc
              have h5 : j < b.size := by rw [← Go.ByteArray.toList_eq] at h3; simpa [Go.ByteArray.toList_eq] using h3
              rw [getElem?_pos b j h5]
              congr 1
            simp only [Instr.index, conc, asIntOf, Sem.run_bind, Sem.run_pure, Result.andThen_ok, h2]
            simp [hc']
          · cases h
        · cases h
      · cases h
    · cases h
end Go.Proofs.Ae
namespace Go.Proofs.Ae
variable {P : Program} {tb : Tb}
theorem boundA_some {x : Value} {y n : Nat} (h : boundA x y = some n) : (∃ k, x = .int k (Int.ofNat n)) ∧ n ≤ y := by
  unfold boundA at h
  split at h
  · rename_i k i
    split at h
    · rename_i m
      cases hb : Nat.ble m y with
      | false => rw [hb] at h; cases h
      | true =>
        rw [hb] at h
        simp only [cond_true, Option.some.injEq] at h
        subst h
        exact ⟨⟨k, rfl⟩, Nat.le_of_ble_eq_true hb⟩
    · cases h
  · cases h
theorem run_bound {ι : Io} {x : Value} {y n Y : Nat} (h : boundA x y = some n) (hY : y ≤ Y) (code : BoundsCode) (w : World) : (Instr.sliceBound (conc ι x) Y code).run P w = .ok n w := by
  obtain ⟨⟨k, rfl⟩, hle⟩ := boundA_some h
  simp only [conc]
  rw [run_sliceBound w k _ Y code (by simp) (by simp; omega)]
  simp
theorem run_bounds {ι : Io} {lo hi mx : Option Value} {len cap C l h m : Nat} (b : Bool) (w : World)
    (hm : (mx = none ∧ m = C) ∨ (∃ v, mx = some v ∧ boundA v cap = some m)) (hC : cap ≤ C)
    (hh : (hi = none ∧ mx = none ∧ h = len) ∨ (∃ v y, hi = some v ∧ boundA v y = some h ∧ y ≤ m))
    (hl : lowA lo h = some l) :
    (Instr.sliceBounds b len C (lo.map (conc ι)) (hi.map (conc ι)) (mx.map (conc ι))).run P w = .ok (l, h, m) w := by
  have low : ∀ code, (match lo.map (conc ι) with
    | some v => Instr.sliceBound v h code
    | none => pure 0 : Sem Nat).run P w = .ok l w := by
    intro code
    cases lo with
    | none => cases hl; rfl
    | some v => exact run_bound hl (Nat.le_refl _) _ w
  unfold Instr.sliceBounds
  rcases hm with ⟨rfl, rfl⟩ | ⟨v, rfl, hv⟩
  · rcases hh with ⟨rfl, _, rfl⟩ | ⟨u, y, rfl, hu, hy⟩
    · cases lo with
      | none => cases hl; simp
      | some q => simp [run_bound (P := P) (ι := ι) hl (Nat.le_refl _)]
    · cases lo with
      | none => cases hl; simp [run_bound (P := P) (ι := ι) hu hy]
      | some q => simp [run_bound (P := P) (ι := ι) hu hy, run_bound (P := P) (ι := ι) hl (Nat.le_refl _)]
  · rcases hh with ⟨_, he, _⟩ | ⟨u, y, rfl, hu, hy⟩
    · cases he
    · cases lo with
      | none => cases hl; simp [run_bound (P := P) (ι := ι) hu hy, run_bound (P := P) (ι := ι) hv hC]
      | some q => simp [run_bound (P := P) (ι := ι) hu hy, run_bound (P := P) (ι := ι) hl (Nat.le_refl _), run_bound (P := P) (ι := ι) hv hC]
theorem highA_some {hi : Option Value} {d y h : Nat} (hh : highA hi d y = some h) : (hi = none ∧ h = d) ∨ (∃ v, hi = some v ∧ boundA v y = some h) := by
  cases hi with
  | none => cases hh; exact .inl ⟨rfl, rfl⟩
  | some v => exact .inr ⟨v, rfl, hh⟩
theorem lowA_le {lo : Option Value} {h l : Nat} (hl : lowA lo h = some l) : l ≤ h := by
  cases lo with
  | none => cases hl; exact Nat.zero_le _
  | some v => exact (boundA_some hl).2
theorem sliceE_some {s s' : St} {sz : Nat} {a : Option Addr} {len cap : Nat} {lo hi mx : Option Value} {v : Value} (h : sliceE s sz a len cap lo hi mx = some (v, s')) :
    ∃ l hh m, s' = s ∧ v = .slice (bif Nat.beq m l then a else a.map fun a => addA a (l * sz)) (hh - l) (m - l) ∧ m ≤ cap ∧
      ((mx = none ∧ m = cap) ∨ (∃ v, mx = some v ∧ boundA v cap = some m)) ∧
      ((hi = none ∧ mx = none ∧ hh = len) ∨ (∃ v y, hi = some v ∧ boundA v y = some hh ∧ y ≤ m)) ∧ lowA lo hh = some l := by
  unfold sliceE at h
  split at h
  · rename_i m hm
    split at h
    · cases h
    · rename_i hno
      split at h
      · rename_i hh hhh
        split at h
        · rename_i l hl
          simp only [Option.some.injEq, Prod.mk.injEq] at h
          obtain ⟨rfl, rfl⟩ := h
          refine ⟨l, hh, m, rfl, rfl, ?_, ?_, ?_, hl⟩
          · rcases highA_some hm with ⟨_, rfl⟩ | ⟨v, _, hv⟩
            · exact Nat.le_refl _
            · exact (boundA_some hv).2
          · rcases highA_some hm with ⟨rfl, rfl⟩ | ⟨v, rfl, hv⟩
            · exact .inl ⟨rfl, rfl⟩
            · exact .inr ⟨v, rfl, hv⟩
          · rcases highA_some hhh with ⟨rfl, rfl⟩ | ⟨v, rfl, hv⟩
            · refine .inl ⟨rfl, ?_, rfl⟩
              cases mx with
              | none => rfl
              | some q => exact (hno q rfl rfl).elim
            · exact .inr ⟨v, m, rfl, hv, Nat.le_refl _⟩
        · cases h
      · cases h
  · cases h
theorem conc_exact (ι : Io) (a : Option Addr) (n c : Nat) (h : c < cap0) : conc ι (.slice a n c) = .slice (a.map (addrC ι)) n c := by
  cases a with
  | none => simp [conc]
  | some a => simp [conc, capC, h]
theorem sliceE_run {s s' : St} {sz : Nat} {a : Option Addr} {len cap : Nat} {lo hi mx : Option Value} {v : Value} (h : sliceE s sz a len cap lo hi mx = some (v, s')) (hc : cap < cap0) (b : Bool) (ι : Io) (w : World) :
    s' = s ∧ ∃ l hh m, (Instr.sliceBounds b len cap (lo.map (conc ι)) (hi.map (conc ι)) (mx.map (conc ι))).run P w = .ok (l, hh, m) w ∧
      conc ι v = .slice (if m = l then a.map (addrC ι) else (a.map (addrC ι)).map fun a => a.add (l * sz)) (hh - l) (m - l) ∧
      ∀ g, (∀ x, a = some x → hdom g x.block) → inD (roomy ι g) v := by
  obtain ⟨l, hh, m, rfl, rfl, hm, h1, h2, h3⟩ := sliceE_some h
  refine ⟨rfl, l, hh, m, run_bounds b w h1 (Nat.le_refl _) h2 h3, ?_, ?_⟩
  · rw [conc_exact _ _ _ _ (by omega)]
    cases hb : Nat.beq m l with
    | true => have := Nat.eq_of_beq_eq_true hb; simp [this]
    | false =>
      have hne : m ≠ l := fun e => by rw [e, Nat.beq_refl] at hb; cases hb
      cases a with
      | none => simp [hne]
      | some a => simp [hne, addrC_addA]
  · intro g hg
    cases hb : Nat.beq m l with
    | true =>
      cases a with
      | none => simp only [cond_true, inD]
      | some a => simp only [cond_true, inD, needR]; rw [if_pos (by omega)]; exact ⟨hg a rfl, Nat.zero_le _⟩
    | false =>
      cases a with
      | none => simp only [cond_false, Option.map_none, inD]
      | some a => simp only [cond_false, Option.map_some, inD, needR, block_addA]; rw [if_pos (by omega)]; exact ⟨hg a rfl, Nat.zero_le _⟩
theorem string_cut (b : ByteArray) (l h : Nat) : b.extract l h = ⟨((b.data.toList.drop l).take (h - l)).toArray⟩ := by
  apply ByteArray.ext
  rw [ByteArray.data_extract]
  apply Array.ext'
  rw [Array.toList_extract]
theorem capC_grow (ι : Io) (a : Addr) (sz : Nat) : capC ι a (cap0 + sz) = ((ι a.block).room - a.off) / sz := by
  unfold capC
  rw [if_neg (by omega), Nat.add_sub_cancel_left]
theorem needR_grow (a : Addr) (n sz : Nat) : needR a n (cap0 + sz) = a.off + n * sz := by
  unfold needR
  rw [if_neg (by omega), Nat.add_sub_cancel_left]
theorem sliceG_q {t e : TypeId} {ti te : TI} (K : TyOk P t ti) (hd : ti.d = .slice e) (KE : TyOk P e te) (hpos : 1 ≤ te.size) {a : Addr} (hsp : a.spot = none) {s s' : St} {len : Nat} {lo hi mx : Option Value} {v : Value}
    (h : sliceG s te.size a len (cap0 + te.size) lo hi mx = some (v, s')) :
    QSem P tb s s' [] (fun D => inD D (.slice (some a) len (cap0 + te.size))) (fun ι => Instr.sliceAt t (conc ι (.slice (some a) len (cap0 + te.size))) (lo.map (conc ι)) (hi.map (conc ι)) (mx.map (conc ι))) v := by
  obtain ⟨d, h1, h0, h2⟩ := K.run_underlying
  rw [hd] at h1
  cases d <;> simp [TDOk] at h1
  subst h1
  have capr : ∀ (ι : Io) (g : Hp), inD (roomy ι g) (.slice (some a) len (cap0 + te.size)) → len ≤ ((ι a.block).room - a.off) / te.size ∧ hdom g a.block ∧ a.off + len * te.size ≤ (ι a.block).room := by
    intro ι g hx
    simp only [inD, needR_grow] at hx
    refine ⟨(Nat.le_div_iff_mul_le hpos).2 ?_, hx.1, hx.2⟩
    have := hx.2; omega
  have model : ∀ (ι : Io) (w : World) (l hh m : Nat), (Instr.sliceBounds true len (((ι a.block).room - a.off) / te.size) (lo.map (conc ι)) (hi.map (conc ι)) (mx.map (conc ι))).run P w = .ok (l, hh, m) w →
      (Instr.sliceAt t (conc ι (.slice (some a) len (cap0 + te.size))) (lo.map (conc ι)) (hi.map (conc ι)) (mx.map (conc ι))).run P w =
        .ok (.slice (some (if m = l then addrC ι a else (addrC ι a).add (l * te.size))) (hh - l) (m - l)) w := by
    intro ι w l hh m hb
    simp only [conc, capC_grow]
    simp only [Instr.sliceAt, Instr.slice, Sem.run_bind, h2, Result.andThen_ok, hb, KE.run_sizeOf, Sem.run_pure]
    by_cases hml : m = l <;> simp [hml]
  unfold sliceG at h
  split at h
  · rename_i mv
    split at h
    · rename_i m hv hm
      split at h
      · rename_i hh hhh
        split at h
        · rename_i l hl
          cases hb : (Nat.beq m l && !(Nat.beq l 0)) || Nat.ble cap0 (m - l) with
          | true => rw [hb] at h; cases h
          | false =>
            rw [hb] at h
            simp only [cond_false, Option.some.injEq, Prod.mk.injEq] at h
            obtain ⟨rfl, rfl⟩ := h
            simp only [Bool.or_eq_false_iff] at hb
            have hlt : m - l < cap0 := Nat.lt_of_not_le fun hn => by rw [Nat.ble_eq_true_of_le hn] at hb; cases hb.2
            refine QSem.same fun ι g w G _ hx => ?_
            obtain ⟨c1, c2, c3⟩ := capr ι g hx
            have hbd := run_bounds (P := P) (ι := ι) (lo := lo) (hi := some hv) (mx := some mv) (len := len) (cap := len) (C := ((ι a.block).room - a.off) / te.size) true w (.inr ⟨mv, rfl, hm⟩) c1
              (.inr ⟨hv, m, rfl, hhh, Nat.le_refl _⟩) hl
            refine ⟨?_, ?_⟩
            · rw [model ι w l hh m hbd, conc_exact _ _ _ _ hlt]
              by_cases hml : m = l
              · have hl0 : l = 0 := by
                  apply Classical.byContradiction; intro hne
                  have h1 : Nat.beq m l = true := by rw [hml]; exact Nat.beq_refl _
                  have h2 : Nat.beq l 0 = false := by cases l with | zero => exact absurd rfl hne | succ n => rfl
                  rw [h1, h2] at hb; cases hb.1
                subst hl0
                simp [hml, addA]
              · simp [hml, addrC_addA]
            · simp only [inD, needR, block_addA]; rw [if_pos hlt]; exact ⟨c2, Nat.zero_le _⟩
        · cases h
      · cases h
    · cases h
  · split at h
    · rename_i hh hhh
      have hle : hh ≤ len := by
        rcases highA_some hhh with ⟨_, rfl⟩ | ⟨v, _, hv⟩
        · exact Nat.le_refl _
        · exact (boundA_some hv).2
      split at h
      · rename_i l hl
        have hlh := lowA_le hl
        have hbd : ∀ (ι : Io) (w : World), len ≤ ((ι a.block).room - a.off) / te.size →
            (Instr.sliceBounds true len (((ι a.block).room - a.off) / te.size) (lo.map (conc ι)) (hi.map (conc ι)) ((none : Option Value).map (conc ι))).run P w = .ok (l, hh, ((ι a.block).room - a.off) / te.size) w := by
          intro ι w hc
          refine run_bounds (cap := len) true w (.inl ⟨rfl, rfl⟩) hc ?_ hl
          rcases highA_some hhh with ⟨rfl, rfl⟩ | ⟨v, rfl, hv⟩
          · exact .inl ⟨rfl, rfl, rfl⟩
          · exact .inr ⟨v, len, rfl, hv, hc⟩
        cases hl0 : Nat.beq l 0 with
        | true =>
          have := Nat.eq_of_beq_eq_true hl0
          subst this
          rw [hl0] at h
          simp only [cond_true, Option.some.injEq, Prod.mk.injEq] at h
          obtain ⟨rfl, rfl⟩ := h
          refine QSem.same fun ι g w G _ hx => ?_
          obtain ⟨c1, c2, c3⟩ := capr ι g hx
          refine ⟨?_, ?_⟩
          · rw [model ι w 0 hh _ (hbd ι w c1)]
            simp [conc, capC_grow, Addr.add]
          · simp only [inD, needR_grow]
            exact ⟨c2, Nat.le_trans (Nat.add_le_add_left (Nat.mul_le_mul_right _ hle) _) c3⟩
        | false =>
          rw [hl0] at h
          simp only [cond_false] at h
          have hl1 : l ≠ 0 := fun e => by subst e; cases hl0
          cases hll : Nat.beq l len with
          | true =>
            have := Nat.eq_of_beq_eq_true hll
            subst this
            have hhl : hh = l := Nat.le_antisymm hle hlh
            subst hhl
            rw [hll] at h
            simp only [cond_true, Option.some.injEq, Prod.mk.injEq] at h
            obtain ⟨rfl, rfl⟩ := h
            refine QSem.new fun ι g w G _ hx hn => ?_
            obtain ⟨c1, c2, c3⟩ := capr ι g hx
            refine ⟨⟨(ι a.block).block, a.off + (ι a.block).off + (if ((ι a.block).room - a.off) / te.size = hh then 0 else hh * te.size), (((ι a.block).room - a.off) / te.size - hh) * te.size⟩, w, ?_, ?_, ?_⟩
            · rw [model ι w hh hh _ (hbd ι w c1)]
              simp only [conc, capC_grow, upI_self, Nat.sub_self, Nat.sub_zero, Nat.mul_div_cancel _ hpos, addrC, hsp]
              by_cases hm : ((ι a.block).room - a.off) / te.size = hh
              · simp [hm, Addr.add]
              · simp [hm, addr_add]
            · exact Ext.alloc G hn _ _ w [] (fun v hv => by cases hv) rfl rfl rfl (Nat.le_refl _) (fun _ _ => rfl) (.inl ⟨rfl, rfl⟩) (fun j v hj => by simp at hj)
            · simp only [inD, needR_grow]
              exact ⟨hdom_of (hset_self _ _ _), by simp⟩
          | false =>
            rw [hll] at h
            simp only [cond_false, Option.some.injEq, Prod.mk.injEq] at h
            obtain ⟨rfl, rfl⟩ := h
            have hlt : l < len := Nat.lt_of_le_of_ne (Nat.le_trans hlh hle) (fun e => by rw [e, Nat.beq_refl] at hll; cases hll)
            refine QSem.same fun ι g w G _ hx => ?_
            obtain ⟨c1, c2, c3⟩ := capr ι g hx
            have hne : ¬ ((ι a.block).room - a.off) / te.size = l := by omega
            have hoff : (addA a (l * te.size)).off = a.off + l * te.size := by
              unfold addA
              cases hq : l * te.size with
              | zero => simp
              | succ k => rfl
            refine ⟨?_, ?_⟩
            · rw [model ι w l hh _ (hbd ι w c1)]
              simp only [conc, capC_grow, block_addA, hne, if_false, addrC_addA, hoff]
              congr 2
              rw [← Nat.sub_sub, Nat.mul_comm l, Nat.sub_mul_div]
            · simp only [inD, needR_grow, block_addA, hoff]
              refine ⟨c2, ?_⟩
              have : l * te.size + (hh - l) * te.size ≤ len * te.size := by
                rw [← Nat.add_mul]
                exact Nat.mul_le_mul_right _ (by omega)
              omega
      · cases h
    · cases h
theorem slice_h (TB : TbOk P tb) (s : St) (t : TypeId) (x : Value) (lo hi mx : Option Value) :
    QH P tb s [] (fun D => inD D x) (fun ι => Instr.sliceAt t (conc ι x) (lo.map (conc ι)) (hi.map (conc ι)) (mx.map (conc ι))) (sliceA tb.ty s x lo hi mx (tb.ty.get t)) := by
  cases ht : tb.ty.get t with
  | none => exact .none
  | some ti =>
    intro r s' h
    obtain ⟨d, h1, h0, h2⟩ := (TB.ty t ti ht).run_underlying
    unfold sliceA at h
    simp only at h
    split at h
    · rename_i e a len cap hd
      rw [hd] at h1
      cases d <;> simp [TDOk] at h1
      subst h1
      split at h
      · rename_i te hte
        cases hsz : Nat.ble 1 te.size with
        | false => rw [hsz] at h; cases h
        | true =>
          rw [hsz] at h
          simp only [cond_true] at h
          have hpos := Nat.le_of_ble_eq_true hsz
          obtain ⟨v, hv, rfl⟩ := valS_some h
          refine ⟨v, rfl, ?_⟩
          unfold sliceS at hv
          cases hc : Nat.ble cap0 cap with
          | false =>
            rw [hc] at hv
            simp only [cond_false] at hv
            have hlt : cap < cap0 := by
              apply Classical.byContradiction; intro hn
              rw [Nat.ble_eq_true_of_le (Nat.le_of_not_lt hn)] at hc; cases hc
            have hs := (sliceE_run (P := P) hv hlt true (fun _ => default) default).1
            subst hs
            refine QSem.same fun ι g w G _ hx => ?_
            obtain ⟨_, l, hh, m, hb, hcv, hin⟩ := sliceE_run (P := P) hv hlt true ι w
            refine ⟨?_, hin g fun y hy => by subst hy; simp only [inD] at hx; exact hx.1⟩
            rw [conc_exact _ _ _ _ hlt]
            simp only [Instr.sliceAt, Instr.slice, Sem.run_bind, h2, Result.andThen_ok, hb, (TB.ty _ _ hte).run_sizeOf, Sem.run_pure, hcv]
          | true =>
            rw [hc] at hv
            simp only [cond_true] at hv
            split at hv
            · cases hv
            · rename_i a
              cases hcs : Nat.beq cap (cap0 + te.size) && a.spot.isNone with
              | false => rw [hcs] at hv; cases hv
              | true =>
                rw [hcs] at hv
                simp only [cond_true] at hv
                simp only [Bool.and_eq_true, Option.isNone_iff_eq_none] at hcs
                have hcap := Nat.eq_of_beq_eq_true hcs.1
                subst hcap
                exact sliceG_q (TB.ty t ti ht) hd (TB.ty _ _ hte) hpos hcs.2 hv
      · cases h
    · rename_i n e a hd
      rw [hd] at h1
      cases d <;> simp [TDOk] at h1
      obtain ⟨rfl, rfl⟩ := h1
      split at h
      · rename_i te hte
        cases hc : Nat.ble cap0 _ with
        | true => rw [hc] at h; cases h
        | false =>
          rw [hc] at h
          simp only [cond_false] at h
          obtain ⟨v, hv, rfl⟩ := valS_some h
          refine ⟨v, rfl, ?_⟩
          have hlt := Nat.lt_of_not_le fun hn => by rw [Nat.ble_eq_true_of_le hn] at hc; cases hc
          have hs := (sliceE_run (P := P) hv hlt false (fun _ => default) default).1
          subst hs
          refine QSem.same fun ι g w G _ hx => ?_
          obtain ⟨_, l, hh, m, hb, hcv, hin⟩ := sliceE_run (P := P) hv hlt false ι w
          refine ⟨?_, hin g fun y hy => by cases hy; simp only [inD] at hx; exact hx.1⟩
          simp only [Instr.sliceAt, Instr.sureAddr, conc, Sem.run_bind, h2, Result.andThen_ok, hb, (TB.ty _ _ hte).run_sizeOf, Sem.run_pure, hcv]
          by_cases hml : m = l <;> simp [hml]
      · cases h
    · rename_i b hd
      rw [hd] at h1
      cases d <;> simp [TDOk] at h1
      split at h
      · cases h
      · unfold substrA at h
        split at h
        · rename_i hh hhh
          split at h
          · rename_i l hl
            cases h
            refine ⟨_, rfl, QSem.same fun ι g w G _ _ => ⟨?_, by simp only [inD]⟩⟩
            have hsz : b.data.toList.length = b.size := by rw [Array.length_toList]; rfl
            rw [hsz] at hhh
            have hb := run_bounds (P := P) (ι := ι) (lo := lo) (hi := hi) (mx := none) (len := b.size) (cap := b.size) (C := b.size) (m := b.size) false w (.inl ⟨rfl, rfl⟩) (Nat.le_refl _)
              (by rcases highA_some hhh with ⟨rfl, rfl⟩ | ⟨v, rfl, hv⟩
                  · exact .inl ⟨rfl, rfl, rfl⟩
                  · exact .inr ⟨v, _, rfl, hv, Nat.le_refl _⟩) hl
            simp only [Option.map_none] at hb
            simp only [Instr.sliceAt, Instr.slice, conc, Sem.run_bind, h2, Result.andThen_ok, Option.map_none, Option.isSome_none, Bool.false_eq_true, if_false, Sem.run_pure, hb, string_cut]
          · cases h
        · cases h
    · cases h
end Go.Proofs.Ae
namespace Go.Proofs.Ae
variable {P : Program} {tb : Tb}
theorem tyD_some {T : Tr TI} {t : TypeId} {d : TD} (h : tyD T (some t) = d) (hn : d ≠ .other) : ∃ ti, T.get t = some ti ∧ ti.d = d := by
  unfold tyD at h
  simp only at h
  split at h
  · exact absurd h.symm hn
  · rename_i ti hti; exact ⟨ti, hti, h⟩
theorem isU8_some {T : Tr TI} {e : TypeId} (h : isU8 (T.get e) = true) : ∃ te, T.get e = some te ∧ te.d = .int .u8 := by
  unfold isU8 at h
  split at h
  · rename_i ti hti
    split at h
    · rename_i hd; exact ⟨ti, hti, hd⟩
    · cases h
  · cases h
theorem strOf_some : ∀ {l : List Value} {r : List UInt8}, strOf l = some r → ∃ ns : List Int, l = ns.map (Value.int .u8) ∧ r = ns.map (fun n => UInt8.ofNat n.toNat)
  | [], r, h => by cases h; exact ⟨[], rfl, rfl⟩
  | v :: l, r, h => by
    change (match byteOf v with
      | some c => match strOf l with
        | some r => some (c :: r)
        | none => none
      | none => none) = some r at h
    split at h
    · rename_i c hc
      split at h
      · rename_i r' hr
        cases h
        obtain ⟨ns, rfl, rfl⟩ := strOf_some hr
        unfold byteOf at hc
        split at hc
        · rename_i n; cases hc; exact ⟨n :: ns, rfl, rfl⟩
        · cases hc
      · cases h
    · cases h
theorem foldl_push (ns : List Int) : ∀ (b : ByteArray), (ns.foldl (fun r n => r.push (UInt8.ofNat n.toNat)) b) = ⟨(b.data.toList ++ ns.map (fun n => UInt8.ofNat n.toNat)).toArray⟩ := by
  induction ns with
  | nil => intro b; simp
  | cons n ns ih =>
    intro b
    rw [List.foldl_cons, ih]
    congr 1
    simp [ByteArray.push]
theorem bytesV_eq : ∀ (b : List UInt8), bytesV b = b.map fun c => Value.int .u8 c.toNat
  | [] => rfl
  | c :: b => by
    change .int .u8 c.toNat :: bytesV b = _
    rw [bytesV_eq b]; rfl
theorem grownCap_le (w : World) (n o : Nat) (e : TypeId) : n ≤ grownCap w n o e := by
  unfold grownCap
  simp only [Question.cut]
  omega
theorem conv_q (TB : TbOk P tb) (s : St) (src dst : TypeId) (x : Value) (hns : ∀ a b, ¬ (tyD tb.ty (some src) = .slice a ∧ tyD tb.ty (some dst) = .slice b)) (same : Bool) :
    QH P tb s (ptrB x) (fun D => inD D x) (fun ι => convert src dst (conc ι x)) (convA tb.ty s same (tyD tb.ty (some src)) (tyD tb.ty (some dst)) x) := by
  intro r s' h
  unfold convA at h
  split at h
  · rename_i a b h1 h2
    exact absurd ⟨h1, h2⟩ (hns _ _)
  · rename_i k1 k2 hs hd
    obtain ⟨ts, g1, e1⟩ := tyD_some hs (by simp)
    obtain ⟨td, g2, e2⟩ := tyD_some hd (by simp)
    obtain ⟨d1, m1, _, r1⟩ := (TB.ty _ _ g1).run_underlying
    obtain ⟨d2, m2, _, r2⟩ := (TB.ty _ _ g2).run_underlying
    rw [e1] at m1
    rw [e2] at m2
    cases d1 <;> simp [TDOk] at m1
    cases d2 <;> simp [TDOk] at m2
    subst m1 m2
    split at h
    · cases h
      refine ⟨_, rfl, QSem.same fun ι g w G _ _ => ⟨?_, by simp only [inD]⟩⟩
      simp only [convert, conc, Sem.run_bind, r1, r2, Result.andThen_ok, Conv.intToInt, Sem.run_pure]
    · cases h
  · rename_i hs hd
    obtain ⟨ts, g1, e1⟩ := tyD_some hs (by simp)
    obtain ⟨td, g2, e2⟩ := tyD_some hd (by simp)
    obtain ⟨d1, m1, _, r1⟩ := (TB.ty _ _ g1).run_underlying
    obtain ⟨d2, m2, _, r2⟩ := (TB.ty _ _ g2).run_underlying
    rw [e1] at m1
    rw [e2] at m2
    cases d1 <;> simp [TDOk] at m1
    cases d2 <;> simp [TDOk] at m2
    split at h
    · cases h
      refine ⟨_, rfl, QSem.same fun ι g w G _ _ => ⟨?_, by simp only [inD]⟩⟩
      simp only [convert, conc, Sem.run_bind, r1, r2, Result.andThen_ok, Sem.run_pure]
    · cases h
  · rename_i e hs hd
    obtain ⟨ts, g1, e1⟩ := tyD_some hs (by simp)
    obtain ⟨td, g2, e2⟩ := tyD_some hd (by simp)
    obtain ⟨d1, m1, u1, r1⟩ := (TB.ty _ _ g1).run_underlying
    obtain ⟨d2, m2, u2, r2⟩ := (TB.ty _ _ g2).run_underlying
    rw [e1] at m1
    rw [e2] at m2
    cases d1 <;> simp [TDOk] at m1
    cases d2 <;> simp [TDOk] at m2
    subst m2
    split at h
    · rename_i b
      cases hu : isU8 (tb.ty.get _) with
      | false => rw [hu] at h; cases h
      | true =>
        rw [hu] at h
        simp only [cond_true, Option.some.injEq, Prod.mk.injEq] at h
        obtain ⟨rfl, rfl⟩ := h
        obtain ⟨te, g3, e3⟩ := isU8_some hu
        obtain ⟨d3, m3, u3, r3⟩ := (TB.ty _ _ g3).run_underlying
        rw [e3] at m3
        cases d3 <;> simp [TDOk] at m3
        subst m3
        refine ⟨_, rfl, QSem.new fun ι g w G _ _ hn => ?_⟩
        have hsz : b.data.toList.length = b.size := by rw [Array.length_toList]; rfl
        rename TypeId => el
        have hcap := grownCap_le w b.size 0 el
        have hrun := run_bytes_of_string (P := P) w src dst el b u1 u2 u3
        generalize hC : grownCap w b.size 0 el = C at hrun hcap
        have hrow : bytesRow b C = (bytesV b.data.toList ++ List.replicate (C - b.size) (Value.int .u8 0)).toArray := by
          unfold bytesRow
          rw [bytesV_eq]
          apply Array.ext'
          simp
        have hlen : (bytesV b.data.toList).length = b.size := by rw [bytesV_eq, List.length_map, hsz]
        have hconc : (bytesV b.data.toList).map (conc (upI ι s.next ⟨w.heap.size, 0, C⟩)) = bytesV b.data.toList := by
          rw [bytesV_eq, List.map_map]
          apply List.map_congr_left
          intro c _
          simp [conc]
        have hx : conc ι (.string b) = .string b := by simp only [conc]
        have hy : conc (upI ι s.next ⟨w.heap.size, 0, C⟩) (.slice (some ⟨s.next, 0, none⟩) b.data.toList.length (cap0 + 1)) = .slice (some ⟨w.heap.size, 0, none⟩) b.size C := by
          simp only [conc, addrC, upI_self, Nat.zero_add, capC_grow, hsz]
          simp
        refine ⟨⟨w.heap.size, 0, C⟩, w.drew.alloc (.cells (bytesRow b C) el ((bytesRow b C).size, (bytesRow b C).size + 1)), ?_, ?_, ?_⟩
        · rw [hx, hy]; exact hrun
        · refine Ext.alloc G hn _ _ _ [] (fun v hv => ?_) rfl rfl rfl (by show w.heap.size ≤ (w.heap.push _).size; simp) (fun k hk => ?_) (.inr rfl) ⟨rfl, List.replicate (C - b.size) (Value.int .u8 0), el, ((bytesRow b C).size, (bytesRow b C).size + 1), ?_, ?_, .inr ?_⟩
          · rw [bytesV_eq] at hv
            obtain ⟨c, _, rfl⟩ := List.mem_map.1 hv
            simp only [inD]
          · show (w.heap.push _)[k]? = w.heap[k]?
            rw [Array.getElem?_push, if_neg (by omega)]
          · rw [hconc]
            show (w.heap.push _)[w.heap.size]? = _
            rw [Array.getElem?_push_size, hrow]
          · simp [hlen]; omega
          · rw [hrow]; simp
        · simp only [inD]
          rw [needR_grow, hsz]
          refine ⟨hdom_of (hset_self _ _ _), ?_⟩
          rw [upI_self]; simpa using hcap
    · cases h
  · rename_i e hs hd
    obtain ⟨ts, g1, e1⟩ := tyD_some hs (by simp)
    obtain ⟨td, g2, e2⟩ := tyD_some hd (by simp)
    obtain ⟨d1, m1, u1, r1⟩ := (TB.ty _ _ g1).run_underlying
    obtain ⟨d2, m2, u2, r2⟩ := (TB.ty _ _ g2).run_underlying
    rw [e1] at m1
    rw [e2] at m2
    cases d1 <;> simp [TDOk] at m1
    cases d2 <;> simp [TDOk] at m2
    subst m1
    cases hu : isU8 (tb.ty.get _) with
    | false => rw [hu] at h; cases h
    | true =>
      rw [hu] at h
      simp only [cond_true] at h
      obtain ⟨te, g3, e3⟩ := isU8_some hu
      obtain ⟨d3, m3, u3, r3⟩ := (TB.ty _ _ g3).run_underlying
      rw [e3] at m3
      cases d3 <;> simp [TDOk] at m3
      subst m3
      split at h
      · cases h
        refine ⟨_, rfl, QSem.same fun ι g w G _ _ => ⟨?_, by simp only [inD]⟩⟩
        simp only [convert, conc, Sem.run_bind, r1, r2, r3, Result.andThen_ok, Conv.bytesToString, Sem.run_pure]
        rfl
      · rename_i a n c
        unfold toStr at h
        split at h
        · rename_i l hl
          split at h
          · rename_i rr hrr
            cases h
            obtain ⟨ns, rfl, rfl⟩ := strOf_some hrr
            refine ⟨_, rfl, QSem.same fun ι g w G hr _ => ⟨?_, by simp only [inD]⟩⟩
            have hl' : cellsH g a n = some (ns.map (Value.int .u8)) := by
              rw [cellsH_congr (hr a.block (by simp [ptrB]))]; exact hl
            have hld := run_loadCells_ae (P := P) G hl'
            have hc : (ns.map (Value.int .u8)).map (conc ι) = ns.map (Value.int .u8) := by
              rw [List.map_map]; apply List.map_congr_left; intro c _; simp [conc]
            rw [hc] at hld
            have hb := run_bytesToString (P := P) w (addrC ι a) n (capC ι a c) ns hld
            simp only [convert, conc, Sem.run_bind, r1, r2, r3, Result.andThen_ok]
            rw [hb, foldl_push]
            rfl
          · cases h
        · cases h
      · cases h
  · cases h
end Go.Proofs.Ae
namespace Go.Proofs.Ae
variable {P : Program} {tb : Tb}
theorem repl_zero (z : List Value) : repl z 0 = [] := rfl
theorem repl_succ (z : List Value) (n : Nat) : repl z (n + 1) = z ++ repl z n := rfl
theorem length_repl (z : List Value) : ∀ n, (repl z n).length = n * z.length
  | 0 => by simp [repl_zero]
  | n + 1 => by rw [repl_succ, List.length_append, length_repl z n, Nat.add_mul]; omega
theorem get_repl (z : List Value) : ∀ (n i : Nat), i < n * z.length → (repl z n)[i]? = z[i % z.length]?
  | 0, i, h => by simp at h
  | n + 1, i, h => by
    rw [repl_succ]
    by_cases hi : i < z.length
    · rw [List.getElem?_append_left hi, Nat.mod_eq_of_lt hi]
    · have hle : z.length ≤ i := Nat.le_of_not_lt hi
      rw [List.getElem?_append_right hle, get_repl z n (i - z.length) (by rw [Nat.add_mul] at h; omega)]
      rw [← Nat.mod_eq_sub_mod hle]
theorem row_repl (z : Array Value) (n : Nat) : (Array.range (n * z.size)).map (fun i => z[i % z.size]!) = (repl z.toList n).toArray := by
  apply Array.ext
  · simp [length_repl]
  · intro i h1 h2
    have hi : i < n * z.size := by simpa using h1
    have hpos : 0 < z.size := by
      rcases Nat.eq_zero_or_pos z.size with h | h
      · rw [h] at hi; simp at hi
      · exact h
    have hm : i % z.size < z.size := Nat.mod_lt _ hpos
    have hg := get_repl z.toList n i (by simpa using hi)
    have h3 : ((repl z.toList n).toArray)[i]? = some (((repl z.toList n).toArray)[i]) := Array.getElem?_eq_getElem h2
    have h4 : ((repl z.toList n).toArray)[i]? = z[i % z.size]? := by simpa using hg
    rw [h4, Array.getElem?_eq_getElem hm] at h3
    have h5 := Option.some.inj h3
    rw [← h5]
    simp [hm]
theorem mem_repl {z : List Value} : ∀ {n : Nat} {v : Value}, v ∈ repl z n → v ∈ z
  | 0, v, h => by simp [repl_zero] at h
  | n + 1, v, h => by
    rw [repl_succ] at h
    rcases List.mem_append.1 h with h | h
    · exact h
    · exact mem_repl h
theorem conc_repl (ι : Io) {z : List Value} (h : ∀ v ∈ z, inD (fun _ _ => False) v) (n : Nat) : (repl z n).map (conc ι) = repl z n := by
  refine (List.map_congr_left (g := fun v => v) fun v hv => conc_zero ι (h v (mem_repl hv))).trans (by simp)
theorem foldl_set : ∀ (l : List Value) (k : Nat) (off : Nat) (cells : Array Value), (l.zipIdx k).foldl (fun cs (p : Value × Nat) => cs.setIfInBounds (off + p.2) p.1) cells = (putAt cells.toList (off + k) l).toArray
  | [], k, off, cells => by simp [putAt_nil]
  | v :: l, k, off, cells => by
    rw [List.zipIdx_cons, List.foldl_cons, foldl_set l (k + 1) off, putAt_cons]
    simp [Nat.add_assoc]
theorem fold_parts (v cells : Array Value) (off : Nat) : v.zipIdx.foldl (fun cs (p : Value × Nat) => cs.setIfInBounds (off + p.2) p.1) cells = (putAt cells.toList off v.toList).toArray := by
  rw [← Array.foldl_toList, Array.toList_zipIdx, foldl_set]
  simp
theorem fill_spec {ι : Io} {sz place : Nat → Option (Nat × Nat)} (hp : ∀ i x, sz i = some x → place i = some x) : ∀ (ps : List (Nat × Value)) (c l : List Value), fillA sz ps c = some l →
    Instr.fill place (c.map (conc ι)).toArray (ps.map fun p => (p.1, conc ι p.2)) = some (l.map (conc ι)).toArray ∧ l.length = c.length ∧ ∀ D, (∀ v ∈ c, inD D v) → (∀ p ∈ ps, inD D p.2) → ∀ v ∈ l, inD D v
  | [], c, l, h => by cases h; exact ⟨rfl, rfl, fun D hc _ => hc⟩
  | (i, v) :: ps, c, l, h => by
    change (match sz i with
      | none => none
      | some (off, n) => bif Nat.beq v.cells.toList.length n then match putX c off v.cells.toList with
          | some c' => fillA sz ps c'
          | none => none
        else none) = some l at h
    split at h
    · cases h
    · rename_i off n hs
      cases hb : Nat.beq v.cells.toList.length n with
      | false => rw [hb] at h; cases h
      | true =>
        rw [hb] at h
        simp only [cond_true] at h
        have hn := Nat.eq_of_beq_eq_true hb
        split at h
        · rename_i c' hc'
          obtain ⟨rfl, hle⟩ := putX_some hc'
          obtain ⟨h1, h2, h3⟩ := fill_spec (ι := ι) hp ps _ _ h
          have hsz : (conc ι v).cells.size = n := by rw [cells_conc, Array.size_map, ← hn, Array.length_toList]
          have hlen : v.cells.size = n := by rw [← hn, Array.length_toList]
          refine ⟨?_, h2.trans (length_putAt _ _ _), fun D hc hv => ?_⟩
          · simp only [List.map_cons, Instr.fill, hp i _ hs]
            rw [if_neg (by
              rw [hsz]
              simp
              rw [hn] at hle
              omega), fold_parts, ← h1]
            congr 1
            rw [cells_conc, Array.toList_map, map_putAt]
          · refine h3 D (fun u hu => ?_) (fun p hp' => hv p (by simp [hp']))
            rcases mem_putAt _ _ _ _ hu with hu | hu
            · exact hc u hu
            · exact inD_cells (hv (i, v) (by simp)) u hu
        · cases h
theorem evP_eq (tm : Tr Value) : ∀ l : List (Nat × Operand), evP tm l = l.map fun p => (p.1, evO tm p.2)
  | [] => rfl
  | p :: l => by
    change (p.1, evO tm p.2) :: evP tm l = _
    rw [evP_eq tm l]; rfl
theorem evL_eq (tm : Tr Value) : ∀ l : List Operand, evL tm l = l.map (evO tm)
  | [] => rfl
  | p :: l => by
    change evO tm p :: evL tm l = _
    rw [evL_eq tm l]; rfl
theorem mapM_places {P : Program} (tb : Tb) (TB : TbOk P tb) : ∀ (fs : List Field), (∀ f ∈ fs, (P.info? f.type).isSome = true) →
    ∃ places, fs.mapM (fun f => (P.info? f.type).map fun i => (f.offset, i.size)) = some places ∧ ∀ i x, fieldAt tb.ty (fs.map fun f => (f.type, f.offset)) i = some x → places[i]? = some x
  | [], _ => ⟨[], rfl, fun i x h => by simp [fieldAt] at h⟩
  | f :: fs, h => by
    obtain ⟨pl, h1, h2⟩ := mapM_places tb TB fs fun g hg => h g (by simp [hg])
    obtain ⟨inf, hi⟩ := Option.isSome_iff_exists.1 (h f (by simp))
    refine ⟨(f.offset, inf.size) :: pl, ?_, ?_⟩
    · simp [List.mapM_cons, hi, h1]
    · intro i x hx
      cases i with
      | zero =>
        unfold fieldAt at hx
        simp only [List.map_cons, List.getElem?_cons_zero] at hx
        split at hx
        · cases hx
        · rename_i tf htf
          cases hx
          obtain ⟨f', e1, e2, _⟩ := (TB.ty _ _ htf).info
          rw [hi] at e1; cases e1
          simp [e2]
      | succ i => exact h2 i x hx
theorem build_h (TB : TbOk P tb) (s : St) (t : TypeId) (ps : List (Nat × Value)) :
    QH P tb s [] (fun D => ∀ p ∈ ps, inD D p.2) (fun ι => Instr.build t (ps.map fun p => (p.1, conc ι p.2)).toArray) (buildA tb.ty s ps (tb.ty.get t)) := by
  cases ht : tb.ty.get t with
  | none => exact .none
  | some ti =>
    intro r s' h
    have K := TB.ty t ti ht
    obtain ⟨d, h1, h0, h2⟩ := K.run_underlying
    obtain ⟨inf, i1, i2, i3, i4, i5⟩ := K.info
    have hz : ∀ ι : Io, (ti.zero.cells.toList.map (conc ι)).toArray = ti.zero.cells := fun ι => by
      have : ti.zero.cells.toList.map (conc ι) = ti.zero.cells.toList := (List.map_congr_left (g := fun v => v) fun v hv => conc_zero ι (inD_cells K.zero v hv)).trans (by simp)
      rw [this]
    unfold buildA at h
    simp only at h
    split at h
    · rename_i fs hd
      obtain ⟨v, hv, rfl, rfl⟩ := valO_some h
      obtain ⟨l, hl, rfl⟩ := aggO_some hv
      rw [hd] at h1
      cases d <;> simp [TDOk] at h1
      rename_i fields
      obtain ⟨rfl, _, h5⟩ := h1
      obtain ⟨places, p1, p2⟩ := mapM_places tb TB fields.toList (fun f hf => h5 f (by simpa using hf))
      refine ⟨_, rfl, QSem.same fun ι g w G _ hp => ?_⟩
      obtain ⟨f1, f2, f3⟩ := fill_spec (ι := ι) (place := (places.toArray[·]?)) (fun i x hx => by simpa using p2 i x hx) ps _ _ hl
      rw [hz] at f1
      refine ⟨?_, ?_⟩
      · rw [run_build w t _ (l.map (conc ι)).toArray]
        · simp [conc]
        · unfold Program.built
          simp only [i1, h0, i4, p1]
          simpa using f1
      · simp only [inD]
        intro u hu
        exact f3 _ (fun v hv => inD_False (inD_cells K.zero v hv)) hp u (by simpa using hu)
    · rename_i n e hd
      split at h
      · cases h
      · rename_i te hte
        obtain ⟨v, hv, rfl, rfl⟩ := valO_some h
        obtain ⟨l, hl, rfl⟩ := aggO_some hv
        rw [hd] at h1
        cases d <;> simp [TDOk] at h1
        obtain ⟨rfl, rfl⟩ := h1
        obtain ⟨fe, j1, j2, _⟩ := (TB.ty _ _ hte).info
        refine ⟨_, rfl, QSem.same fun ι g w G _ hp => ?_⟩
        obtain ⟨f1, f2, f3⟩ := fill_spec (ι := ι) (place := fun i => some (i * te.size, te.size)) (fun i x hx => hx) ps _ _ hl
        rw [hz] at f1
        refine ⟨?_, ?_⟩
        · rw [run_build w t _ (l.map (conc ι)).toArray]
          · simp [conc]
          · unfold Program.built
            simp only [i1, h0, i4, j1, j2]
            simpa using f1
        · simp only [inD]
          intro u hu
          exact f3 _ (fun v hv => inD_False (inD_cells K.zero v hv)) hp u (by simpa using hu)
    · cases h
end Go.Proofs.Ae
namespace Go.Proofs.Ae
variable {P : Program} {tb : Tb}
theorem elemA_some {T : Tr TI} {t : TypeId} {te : TI} (h : elemA T (some t) = some te) : ∃ ti e, T.get t = some ti ∧ ti.d = .slice e ∧ T.get e = some te := by
  unfold elemA at h
  simp only at h
  split at h
  · cases h
  · rename_i ti hti
    split at h
    · rename_i e hd; exact ⟨ti, e, hti, hd, h⟩
    · cases h
theorem newSlice_q {s : St} {D : (Nat → Nat → Prop) → Prop} {X : Io → Sem Value} {c : List Value} {e : TypeId} {n : Nat} (hn : n < cap0) (l : Nat) (hD : ∀ d, D d → ∀ v ∈ c, inD d v)
    (hX : ∀ ι w, (∀ g, D (roomy ι g) → True) → (X ι).run P w = .ok (.slice (some ⟨w.heap.size, 0, none⟩) l n) { w with heap := w.heap.push (.cells (c.map (conc ι)).toArray e) }) :
    QSem P tb s (s.alloc (.cells c .exact)) [] D X (.slice (some ⟨s.next, 0, none⟩) l n) := by
  refine QSem.new fun ι g w G _ hd hn' => ⟨_, _, ?_, Ext.newCells G hn' c e [] (hD _ hd), ?_⟩
  · rw [hX _ _ (fun _ _ => trivial)]
    rw [conc_exact _ _ _ _ hn]
    simp only [Option.map_some, addrC, upI_self]
  · simp only [inD, needR]; rw [if_pos hn]; exact ⟨hdom_of (hset_self _ _ _), Nat.zero_le _⟩
theorem cap0_eq : cap0 = 1208925819614629174706176 := rfl
theorem mkSlice_h (TB : TbOk P tb) (s : St) (t : TypeId) (l c : Value) : QH P tb s [] (fun _ => True) (fun ι => Instr.makeSlice t (conc ι l) (conc ι c)) (mkSliceA s l c (elemA tb.ty (some t))) := by
  cases hte : elemA tb.ty (some t) with
  | none => exact .none
  | some te =>
    intro r s' h
    obtain ⟨ti, e, h1, h2, h3⟩ := elemA_some hte
    obtain ⟨d, m1, _, r1⟩ := (TB.ty _ _ h1).run_underlying
    rw [h2] at m1
    cases d <;> simp [TDOk] at m1
    subst m1
    rename TypeId => el
    have KE := TB.ty _ _ h3
    unfold mkSliceA at h
    simp only at h
    split at h
    · rename_i l c
      cases hb : Nat.ble l c && Nat.ble (te.bytes * c) 140737488355328 && Nat.ble 1 te.bytes && Nat.beq te.zero.cells.toList.length te.size with
      | false => rw [hb] at h; cases h
      | true =>
        rw [hb] at h
        simp only [cond_true, Option.some.injEq, Prod.mk.injEq] at h
        obtain ⟨rfl, rfl⟩ := h
        simp only [Bool.and_eq_true] at hb
        have b1 := Nat.le_of_ble_eq_true hb.1.1.1
        have b2 := Nat.le_of_ble_eq_true hb.1.1.2
        have b3 := Nat.le_of_ble_eq_true hb.1.2
        have b4 := Nat.eq_of_beq_eq_true hb.2
        have hc : c ≤ 140737488355328 := Nat.le_trans (by simpa using Nat.mul_le_mul_right c b3) b2
        obtain ⟨inf, f1, f2, f3, f4, f5⟩ := KE.info
        refine ⟨_, rfl, newSlice_q (e := el) (by rw [cap0_eq]; omega) l (fun d _ v hv => inD_False (inD_cells KE.zero v (mem_repl hv))) fun ι w _ => ?_⟩
        rw [conc_repl ι (inD_cells KE.zero)]
        have wl : IntKind.i64.wrap (Int.ofNat l) = (l : Int) := wrap_in .i64 l (by show l ≤ 9223372036854775807; omega)
        have wc : IntKind.i64.wrap (Int.ofNat c) = (c : Int) := wrap_in .i64 c (by show c ≤ 9223372036854775807; omega)
        have hbc : (inf.bytes : Int) * (c : Int) ≤ 140737488355328 := by rw [f3, ← Int.natCast_mul]; exact Int.ofNat_le.2 b2
        have hroom : ¬ (c * inf.bytes > roomBytes) := by
          rw [f3, Nat.mul_comm]
          have : roomBytes = 140737488355328 := rfl
          omega
        have z4 : te.zero.cells.size = te.size := by rw [← b4, Array.length_toList]
        simp only [Instr.makeSlice, conc, asInt, asIntOf, Sem.run_bind, r1, Result.andThen_ok, Sem.run_pure, typeInfo, run_program, f1, wl, wc]
        have hno : ((decide ((c : Int) < 0) || decide ((inf.bytes : Int) * (c : Int) > 2 ^ 48)) || decide ((l : Int) < 0) || decide ((l : Int) > (c : Int))) = false := by
          simp only [Bool.or_eq_false_iff, decide_eq_false_iff_not]
          refine ⟨⟨⟨by omega, by omega⟩, by omega⟩, by omega⟩
        simp only [hno, Bool.false_eq_true, if_false, Sem.run_bind, Result.andThen_ok, askRoom, Int.toNat_natCast, hroom, Sem.run_pure, KE.run_sizeOf, newRow]
        by_cases hn0 : c * te.size = 0
        · have : repl te.zero.cells.toList c = [] := List.length_eq_zero_iff.1 (by rw [length_repl, b4]; exact hn0)
          have hr0 : ∀ f : Nat → Value, (Array.range 0).map f = #[] := fun f => by simp
          simp only [hn0, if_true, Sem.run_pure, Result.andThen_ok, hr0, this, Sem.run_bind, run_newObj]
        · simp only [hn0, if_false, Sem.run_bind, KE.run_zero, Result.andThen_ok, Sem.run_pure, run_newObj]
          rw [← z4, row_repl]
    · cases h
theorem buildSlice_h (TB : TbOk P tb) (s : St) (t : TypeId) (len : Nat) (ps : List (Nat × Value)) :
    QH P tb s [] (fun D => ∀ p ∈ ps, inD D p.2) (fun ι => Instr.buildSlice t len (ps.map fun p => (p.1, conc ι p.2)).toArray) (buildSliceA s len ps (elemA tb.ty (some t))) := by
  cases hte : elemA tb.ty (some t) with
  | none => exact .none
  | some te =>
    intro r s' h
    obtain ⟨ti, e, h1, h2, h3⟩ := elemA_some hte
    obtain ⟨d, m1, _, r1⟩ := (TB.ty _ _ h1).run_underlying
    rw [h2] at m1
    cases d <;> simp [TDOk] at m1
    subst m1
    rename TypeId => el
    have KE := TB.ty _ _ h3
    unfold buildSliceA at h
    simp only at h
    cases hb : Nat.ble (len * te.size) 16777216 && Nat.beq te.zero.cells.toList.length te.size && Nat.ble len 16777216 with
    | false => rw [hb] at h; cases h
    | true =>
      rw [hb] at h
      simp only [cond_true] at h
      simp only [Bool.and_eq_true] at hb
      have b1 := Nat.le_of_ble_eq_true hb.1.1
      have b2 := Nat.eq_of_beq_eq_true hb.1.2
      have b3 := Nat.le_of_ble_eq_true hb.2
      split at h
      · rename_i l hl
        cases h
        refine ⟨_, rfl, newSlice_q (e := el) (by rw [cap0_eq]; omega) len (fun d hd => ?_) fun ι w _ => ?_⟩
        · exact (fill_spec (ι := fun _ => default) (place := fun i => some (i * te.size, te.size)) (fun i x hx => hx) ps _ _ hl).2.2 d (fun v hv => inD_False (inD_cells KE.zero v (mem_repl hv))) hd
        · obtain ⟨q1, q2, q3⟩ := fill_spec (ι := ι) (place := fun i => some (i * te.size, te.size)) (fun i x hx => hx) ps _ _ hl
          rw [conc_repl ι (inD_cells KE.zero)] at q1
          have z4 : te.zero.cells.size = te.size := by rw [← b2, Array.length_toList]
          have hno : ¬ (len * te.size > 2 ^ 24) := by omega
          simp only [Instr.buildSlice, Sem.run_bind, r1, Result.andThen_ok, KE.run_sizeOf, hno, if_false, Sem.run_pure]
          by_cases hn0 : len * te.size = 0
          · have : repl te.zero.cells.toList len = [] := List.length_eq_zero_iff.1 (by rw [length_repl, b2]; exact hn0)
            rw [this] at q1
            have hr0 : ∀ f : Nat → Value, (Array.range 0).map f = #[] := fun f => by simp
            simp only [hn0, if_true, Sem.run_bind, Sem.run_pure, Result.andThen_ok, hr0]
            have q1' : Instr.fill (fun i => some (i * te.size, te.size)) #[] (ps.map fun p => (p.1, conc ι p.2)) = some (l.map (conc ι)).toArray := q1
            simp only [q1', Sem.run_bind, newRow, run_newObj, Result.andThen_ok, Sem.run_pure]
          · simp only [hn0, if_false, Sem.run_bind, KE.run_zero, Result.andThen_ok, Sem.run_pure]
            have hrow : (Array.range (len * te.size)).map (fun x => te.zero.cells[x % te.zero.cells.size]!) = (repl te.zero.cells.toList len).toArray := by rw [← z4, row_repl]
            rw [hrow]
            simp only [q1, Sem.run_bind, newRow, run_newObj, Result.andThen_ok, Sem.run_pure]
      · cases h
end Go.Proofs.Ae
