/- A part of the proof that the program's function answers true: lemmas (Z2 to Br3) on carrying the program out over names of memory objects. No condition. -/
import Derived.Test.YtmchinghfbdlkaaGreatDoorAe30
import Derived.Test.YtmchinghfbdlkaaGreatDoorRows
import Derived.ProofKit
import Derived.LaidMore
import Derived.OpenShut
import Derived.LaidSub
import Derived.LaidLaws
import Derived.LaidHandle
import Derived.Stop.Joined
set_option linter.unusedVariables false
set_option linter.unusedSimpArgs false
namespace Go.Proofs.Ae
open Go.Proofs
inductive BE (n0 : Nat) (s : St) : Value → List Value → Nat → Prop
  | nil : BE n0 s (.slice none 0 0) [] 0
  | at (b : Nat) (c : List Value) (len : Nat) (hb : n0 ≤ b) (hc : c.length = len * 3) (h : s.get b = some (.cells c .grow)) : BE n0 s (.slice (some ⟨b, 0, none⟩) len (cap0 + 3)) c len
theorem ty68 : ∃ ti, tyT.get 68 = some ti ∧ ti.d = .slice 76 ∧ ti.size = 1 := tyR (by kernel_rfl)
theorem tyD68 : tyD tyT (some 68) = .slice 76 := by kernel_rfl
theorem ty76 : ∃ ti, tyT.get 76 = some ti ∧ ti.size = 3 ∧ ti.bytes = 32 ∧ ti.d = .struct [(3, 0), (9, 1), (73, 2)] := by
  have : (tyT.get 76).map (fun ti => (ti.size, ti.bytes, ti.d)) = some (3, 32, .struct [(3, 0), (9, 1), (73, 2)]) := by kernel_rfl
  cases hg : tyT.get 76 with
  | none => rw [hg] at this; cases this
  | some ti =>
    rw [hg] at this
    simp only [Option.map_some, Option.some.injEq, Prod.mk.injEq] at this
    exact ⟨ti, rfl, this.1, this.2.1, this.2.2⟩
theorem elem68 : elemA tyT (some 68) = tyT.get 76 := by
  obtain ⟨ti, h, hd, _⟩ := ty68
  simp only [elemA, h, hd]
theorem appe_guard (e : List Value) (len : Nat) (he : e.length = 3) (ho : allOne e = true) (h : len + 1 ≤ 1000000000000) : (Nat.ble ((len + 1) * 32) 140737488355328 && allOne e && Nat.ble 1 3 && Nat.ble 1 32 && Nat.beq e.length (1 * 3)) = true := by
  have h1 : Nat.ble ((len + 1) * 32) 140737488355328 = true := Nat.ble_eq_true_of_le (by omega)
  rw [h1, ho, he]; rfl
theorem ble_cap3 : Nat.ble cap0 (cap0 + 3) = true := rfl
theorem beq_cap3 : Nat.beq (cap0 + 3) (cap0 + 3) = true := Nat.beq_refl _
theorem appe_nc (s : St) (e : List Value) (he : e.length = 3) (ho : allOne e = true) : appendS s 3 32 none 0 0 1 e = some (.slice (some ⟨s.next, 0, none⟩) 1 (cap0 + 3), s.alloc (.cells e .grow)) := by
  unfold appendS
  rw [appe_guard e 0 he ho (by omega)]
  have h0 : Nat.beq 1 0 = false := rfl
  have h2 : Nat.ble (0 + 1) 0 = false := rfl
  simp only [cond_true, h0, cond_false, ble_cap0, appendE, h2, oldCells, Nat.zero_mul, beq_00, Nat.zero_add, List.nil_append]
theorem appe_ac (s : St) (b len cap : Nat) (c e : List Value) (hc1 : Nat.ble cap0 cap = true) (hc2 : Nat.beq cap (cap0 + 3) = true)
    (hgd : (Nat.ble ((len + 1) * 32) 140737488355328 && allOne e && Nat.ble 1 3 && Nat.ble 1 32 && Nat.beq e.length (1 * 3)) = true)
    (h4 : putX c (0 + len * 3) e = none) (h5 : takeX c (len * 3) = some c) (hg : s.get b = some (.cells c .grow)) :
    appendS s 3 32 (some ⟨b, 0, none⟩) len cap 1 e = some (.slice (some ⟨s.next, 0, none⟩) (len + 1) cap, (s.upd b .dead).alloc (.cells (c ++ e) .grow)) := by
  unfold appendS
  rw [hgd]
  have h0 : Nat.beq 1 0 = false := rfl
  simp only [cond_true, h0, cond_false, hc1, appendG, hc2]
  rw [hg]
  unfold appG
  simp only [h4, beq_00, cond_true, h5]
theorem appe_one (s : St) (v : Value) (c : List Value) (len n0 x : Nat) (e : List Value) (hv : BE n0 s v c len) (he : e.length = 3) (ho : allOne e = true) (hx : s.get x = some (.cells e .exact)) (hb : len + 1 ≤ 1000000000000) :
    ∃ s', builtinA tyT s .append [68, 68] [v, .slice (some ⟨x, 0, none⟩) 1 1] = some (.val (.slice (some ⟨s.next, 0, none⟩) (len + 1) (cap0 + 3)), s') ∧ (n0 ≤ s.next → BE n0 s' (.slice (some ⟨s.next, 0, none⟩) (len + 1) (cap0 + 3)) (c ++ e) (len + 1)) ∧
      (∀ A s0, s0.next ≤ n0 → s.Ok → Fm A s0 s → Fm A s0 s') ∧ (s' = s.alloc (.cells e .grow) ∧ v = .slice none 0 0 ∨ ∃ b, n0 ≤ b ∧ v = .slice (some ⟨b, 0, none⟩) len (cap0 + 3) ∧ s' = (s.upd b .dead).alloc (.cells (c ++ e) .grow)) := by
  obtain ⟨ti5, t5, z5, y5, _⟩ := ty76
  have hce : cellsAt s ⟨x, 0, none⟩ (1 * 3) = some e := by
    have := take_all e
    rw [he] at this
    simp only [cellsAt, hx, cellsOf, dropX_eq, List.drop_zero, Nat.one_mul, this]
  have key : ∀ a len cap v' s', appendS s 3 32 a len cap 1 e = some (v', s') → builtinA tyT s .append [68, 68] [.slice a len cap, .slice (some ⟨x, 0, none⟩) 1 1] = some (.val v', s') := by
    intro a len cap v' s' h
    unfold builtinA
    simp only [List.head?_cons, List.tail_cons, elem68, t5, tyD68, appendA, z5, y5]
    rw [hce]
    simp only [h]; rfl
  cases hv with
  | nil => exact ⟨_, key _ _ _ _ _ (appe_nc s e he ho), fun hn => .at s.next ([] ++ e) 1 hn (by simp [he]) (St.get_alloc_self _ _), fun A s0 _ hok hF => hF.alloc _, .inl ⟨rfl, rfl⟩⟩
  | «at» b c len hbn hc h =>
    have h4 : putX c (0 + len * 3) e = none := by
      rw [Nat.zero_add, ← hc]
      exact put_over c e (by intro h; rw [h] at he; cases he)
    have h5 : takeX c (len * 3) = some c := by rw [← hc]; exact take_all c
    have ha := appe_ac s b len _ c e ble_cap3 beq_cap3 (appe_guard e len he ho hb) h4 h5 h
    refine ⟨_, key _ _ _ _ _ ha, fun hn => .at s.next (c ++ e) (len + 1) hn (by simp [hc, he]; omega) (St.get_alloc_self _ _), fun A s0 hs0 hok hF => ?_, .inr ⟨b, hbn, rfl, rfl⟩⟩
    exact (hF.upd .dead (.inr (by omega)) (hok _ (hdom_of h))).alloc _
end Go.Proofs.Ae
namespace Go.Proofs.Ae
open Go.Proofs
set_option maxHeartbeats 8000000
noncomputable def open_0 : Array Oper := opsAt Tryz.f6 [0]
noncomputable def open_1 : Array Oper := opsAt Tryz.f6 [1, 0, 0]
noncomputable def open_2 : Array Oper := opsAt Tryz.f6 [1, 0, 1, 0, 0]
noncomputable def open_3 : Array Oper := opsAt Tryz.f6 [1, 1, 0]
noncomputable def open_4 : Array Oper := opsAt Tryz.f6 [1, 1, 1, 0, 0]
noncomputable def open_5 : Array Oper := opsAt Tryz.f6 [1, 1, 1, 0, 1, 0, 0, 0]
noncomputable def open_6 : Array Oper := opsAt Tryz.f6 [1, 1, 1, 0, 1, 0, 0, 1, 0]
noncomputable def open_7 : Array Oper := opsAt Tryz.f6 [1, 1, 1, 0, 1, 0, 1, 0]
noncomputable def open_8 : Array Oper := opsAt Tryz.f6 [1, 1, 1, 1, 0]
noncomputable def open_9 : Array Oper := opsAt Tryz.f6 [1, 1, 1, 1, 1, 0, 0]
noncomputable def open_10 : Array Oper := opsAt Tryz.f6 [1, 1, 1, 1, 1, 0, 1, 0, 0, 0]
noncomputable def open_11 : Array Oper := opsAt Tryz.f6 [1, 1, 1, 1, 1, 0, 1, 0, 0, 1, 1, 0, 0, 0]
noncomputable def open_12 : Array Oper := opsAt Tryz.f6 [1, 1, 1, 1, 1, 0, 1, 0, 0, 1, 1, 0, 0, 1, 0]
noncomputable def open_13 : Array Oper := opsAt Tryz.f6 [1, 1, 1, 1, 1, 0, 1, 0, 0, 1, 1, 0, 0, 1, 1]
noncomputable def open_14 : Array Oper := opsAt Tryz.f6 [1, 1, 1, 1, 1, 0, 1, 0, 0, 1, 1, 1]
noncomputable def open_15 : Array Oper := opsAt Tryz.f6 [1, 1, 1, 1, 1, 1, 0]
theorem open_body : Tryz.f6.body = some (.seq (.region 0 open_0 false) (.seq (.seq (.region 1 open_1 false) (.cond (.tmp 15) (.seq (.region 2 open_2 false) .ret) .skip)) (.seq (.region 3 open_3 false) (.seq (.seq (.region 4 open_4 false) (.cond (.tmp 23) (.seq (.seq (.region 5 open_5 false) (.cond (.tmp 26) (.region 6 open_6 false) .skip)) (.seq (.region 7 open_7 false) .ret)) .skip)) (.seq (.region 8 open_8 false) (.seq (.seq (.region 9 open_9 false) (.block 0 (.loop (.seq (.region 10 open_10 false) (.seq (.cond (.tmp 38) .skip (.exit 0)) (.seq (.block 1 (.seq (.region 11 open_11 false) (.seq (.region 12 open_12 false) (.region 13 open_13 true)))) (.region 14 open_14 false))))))) (.seq (.region 15 open_15 false) .ret))))))) := by kernel_rfl
structure TOk (s : St) (o : Nat) (k : ByteArray) (st d l h m cap : Nat) : Prop where
  po : s.get o = some (.cells (offC k st (.slice (some ⟨h, 0, none⟩) m cap)) .exact)
  pst : s.get st = some (.cells (storeC d l) .exact)
  pd : hdom s.get d
  pl : hdom s.get l
  ph : hdom s.get h
  g7 : 7 < d ∧ 7 < l ∧ 7 < h
  ne : o ≠ d ∧ o ≠ l ∧ o ≠ h ∧ st ≠ d ∧ st ≠ l ∧ st ≠ h ∧ d ≠ l ∧ d ≠ h ∧ l ≠ h
theorem HV.inv {s : St} {v : Value} {l : List Int} (h : HV s v l) : (l = [] ∧ ∃ a c, v = .slice a 0 c) ∨ (l ≠ [] ∧ ∃ b o c, v = .slice (some ⟨b, o, none⟩) l.length c ∧ IntsAt s b o l) := by
  cases h with
  | empty a c => exact .inl ⟨rfl, a, c, rfl⟩
  | «at» b o c l h0 hc h => exact .inr ⟨h0, b, o, c, rfl, h⟩
theorem HV.uniq {s : St} {v : Value} {l l' : List Int} (h : HV s v l) (h' : HV s v l') : l = l' := by
  rcases h.inv with ⟨rfl, a, c, rfl⟩ | ⟨h0, b, o, c, rfl, hi⟩
  · rcases h'.inv with ⟨rfl, _⟩ | ⟨h0', b, o, c, e, _⟩
    · rfl
    · cases hl : l' with
      | nil => rfl
      | cons x l => rw [hl] at e; cases e
  · rcases h'.inv with ⟨rfl, a, c', e⟩ | ⟨h0', b', o', c', e, hi'⟩
    · have := congrArg (fun v => match v with | Value.slice _ n _ => n | _ => 0) e
      simp only at this
      exact absurd (List.eq_nil_of_length_eq_zero this) h0
    · simp only [Value.slice.injEq, Option.some.injEq, Addr.mk.injEq, and_true] at e
      obtain ⟨⟨rfl, rfl⟩, hlen, rfl⟩ := e
      obtain ⟨cc, mm, hg, hcell⟩ := hi
      obtain ⟨cc', mm', hg', hcell'⟩ := hi'
      rw [hg] at hg'
      cases hg'
      refine List.ext_getElem? fun i => ?_
      by_cases hi : i < l.length
      · have h1 := hcell i hi
        rw [hcell' i (by omega)] at h1
        have h2 : atI l' i = atI l i := by simpa using h1
        rw [List.getElem?_eq_getElem hi, List.getElem?_eq_getElem (by omega : i < l'.length)]
        simp only [atI, List.getD_eq_getElem?_getD, List.getElem?_eq_getElem hi, List.getElem?_eq_getElem (by omega : i < l'.length), Option.getD_some] at h2
        rw [h2]
      · rw [List.getElem?_eq_none (by omega), List.getElem?_eq_none (by omega)]
theorem HV.move {s s' : St} {v : Value} {l : List Int} (k : HV s v l) (e : ∀ b o n c, v = .slice (some ⟨b, o, none⟩) n c → hdom s.get b → s'.get b = s.get b) : HV s' v l := by
  cases k with
  | empty a c => exact .empty a c
  | «at» b o cap l h0 hc h =>
    obtain ⟨c, m, hg, hcell⟩ := h
    exact .at b o cap l h0 hc ⟨c, m, by rw [e b o _ _ rfl (hdom_of hg), hg], hcell⟩
theorem BE.same {n0 : Nat} {s s' : St} {v : Value} {c : List Value} {len : Nat} (k : BE n0 s v c len) (h : ∀ i, n0 ≤ i → hdom s.get i → s'.get i = s.get i) : BE n0 s' v c len := by
  cases k with
  | nil => exact .nil
  | «at» b c len hb hc hg => exact .at b c len hb hc (by rw [h b hb (hdom_of hg), hg])
theorem BE.pos {n0 : Nat} {s : St} {v : Value} {c : List Value} {len : Nat} (k : BE n0 s v c len) (h : 0 < len) : ∃ b cap, v = .slice (some ⟨b, 0, none⟩) len cap ∧ n0 ≤ b ∧ hdom s.get b := by
  cases k with
  | nil => omega
  | «at» b c len hb hc hg => exact ⟨b, _, rfl, hb, hdom_of hg⟩
def Ad (a b c : Nat) (i : Nat) : Prop := i = a ∨ i = b ∨ i = c
def OpR (s : St) (k : ByteArray) (l : List Int) (n a b c : Nat) (v : Value) (s' : St) : Prop := Fm (Ad a b c) s s' ∧
  ((¬ mayP k l ∧ v = .tuple #[.pointer none, .iface 36 (.int .i64 160)]) ∨ (mayP k l ∧ n < 4 ∧ v = .tuple #[.pointer none, .iface 36 (.int .i64 1)]) ∨
    (mayP k l ∧ 4 ≤ n ∧ ∃ o st d ll h m cap, v = .tuple #[.pointer (some ⟨o, 0, none⟩), .nilIface] ∧ TOk s' o k st d ll h m cap))
theorem ld24 (s : St) (b : Nat) (k : ByteArray) (hv : Value) (h : s.get b = some (.cells (ofC k hv) .exact)) : loadA s (.pointer (some ⟨b, 0, none⟩)) (tyT.get 24) = some (.val (.agg #[.string k, hv]), s) := by
  obtain ⟨ti, t5, d5, z5⟩ : ∃ ti, tyT.get 24 = some ti ∧ ti.d = .struct [(9, 0), (22, 1)] ∧ ti.size = 2 := tyR (by kernel_rfl)
  rw [t5]
  have h1 : isOther ti.d = false := by rw [d5]; rfl
  have h2 : isAggT ti.d = true := by rw [d5]; rfl
  have := take_all (ofC k hv)
  simp only [loadA, loadT, h1, h2, cond_false, cond_true, cellsAt, h, cellsOf, z5, dropX_eq, List.drop_zero]
  rw [show takeX (ofC k hv) 2 = some (ofC k hv) from this]
  rfl
theorem b70 (s : St) (k : ByteArray) (st : Nat) : buildA tyT s [(0, .string k), (1, .pointer (some ⟨st, 0, none⟩))] (tyT.get 70) = some (.val (.agg (offC k st (.slice none 0 0)).toArray), s) :=
  buildS (T := 70) (fs := [(9, 0), (64, 1), (68, 2), (4, 3)]) (z := [.string ⟨#[]⟩, .pointer none, .slice none 0 0, .bool false]) (by kernel_rfl) s _ _ (by kernel_rfl)
def endC (n : Int) (str : ByteArray) (r : Nat) : List Value := [.int .i64 n, .string str, .pointer (some ⟨r, 0, none⟩)]
theorem b76 (s : St) (n : Int) (str : ByteArray) (r : Nat) : buildA tyT s [(0, .int .i64 n), (1, .string str), (2, .pointer (some ⟨r, 0, none⟩))] (tyT.get 76) = some (.val (.agg (endC n str r).toArray), s) :=
  buildS (T := 76) (fs := [(3, 0), (9, 1), (73, 2)]) (z := [.int .i64 0, .string ⟨#[]⟩, .pointer none]) (by kernel_rfl) s _ _ (by kernel_rfl)
theorem bsE (s : St) (n : Int) (str : ByteArray) (r : Nat) : buildSliceA s 1 [(0, .agg (endC n str r).toArray)] (tyT.get 76) = some (.val (.slice (some ⟨s.next, 0, none⟩) 1 1), s.alloc (.cells (endC n str r) .exact)) := by
  obtain ⟨ti, t5, d5, z5, zz⟩ : ∃ ti, tyT.get 76 = some ti ∧ ti.d = .struct [(3, 0), (9, 1), (73, 2)] ∧ ti.size = 3 ∧ ti.zero.cells.toList = [.int .i64 0, .string ⟨#[]⟩, .pointer none] := tyZ (by kernel_rfl)
  rw [t5]
  simp only [buildSliceA, z5, zz]
  rfl
theorem one68 : tyOne 68 := by unfold tyOne; kernel_rfl
theorem f70_2 : fldIs 70 2 2 := ⟨by kernel_rfl, by kernel_rfl⟩
theorem mki (s : St) (n : Int) : mkIfaceA s 36 (.int .i64 n) (tyT.get 36) = some (.val (.iface 36 (.int .i64 n)), s) := by
  obtain ⟨ti, t5, d5, _⟩ : ∃ ti, tyT.get 36 = some ti ∧ ti.d = .int .i64 ∧ ti.size = 1 := tyR (by kernel_rfl)
  rw [t5]
  simp only [mkIfaceA, d5]
theorem soS_fm (s : St) (hok : s.Ok) (n : Int) (a b c d : Nat) (la : a < s.next) (lb : b < s.next) (lc : c < s.next) : Fm (Ad a b c) s (soS s n a b c d) :=
  ((((((Fm.refl hok).upd _ (.inl (.inl rfl)) la).upd _ (.inl (.inr (.inl rfl))) lb).upd _ (.inl (.inr (.inr rfl))) lc).alloc _).alloc _).alloc _
theorem open_Z (s : St) (hok : s.Ok) (hG : Gl s) (k : ByteArray) (hv : Value) (l : List Int) (hH : HV s hv l) (hl : l.length < 9223372036854775808) (n a b c d : Nat) (hn : n ≤ 60)
    (ha : s.get a = some (.map [])) (hb : s.get b = some (.map [])) (hab : a ≠ b) (hc : s.get c = some (.cells (boxC n a b) .exact)) (hd : s.get d = some (.cells (diskC c n) .exact)) (h7 : 7 < d) (hfar : ∀ i, Ad a b c i → ∀ bb oo n' cc, hv = .slice (some ⟨bb, oo, none⟩) n' cc → i ≠ bb) :
    CP tbZ 6 [.pointer (some ⟨d, 0, none⟩), .agg #[.string k, hv]] s (OpR s k l n a b c) := by
  refine CP.of rfl (by kernel_rfl) open_body (Nat.le_of_ble_eq_true rfl) ?_
  have e0 : tmA (argsTr [.pointer (some ⟨d, 0, none⟩), .agg #[.string k, hv]] 0 .nil) 0 = .pointer (some ⟨d, 0, none⟩) := rfl
  have e1 : tmA (argsTr [.pointer (some ⟨d, 0, none⟩), .agg #[.string k, hv]] 0 .nil) 1 = .agg #[.string k, hv] := rfl
  generalize argsTr [.pointer (some ⟨d, 0, none⟩), .agg #[.string k, hv]] 0 .nil = t0 at e0 e1 ⊢
  have la := hok _ (hdom_of ha)
  have lb := hok _ (hdom_of hb)
  have lc := hok _ (hdom_of hc)
  have ld := hok _ (hdom_of hd)
  refine W.seq (W.region ?_)
  refine WR.val rfl (by simp only [push_cast, tbZ_ty, Nat.reduceEqDiff, ↓reduceIte, e1]; rfl) ?_
  iterate 2 refine WR.val rfl (by simp only [push_cast, tbZ_ty, Nat.reduceEqDiff, ↓reduceIte]; rfl) ?_
  refine WR.nil ?_
  obtain ⟨s3, hs3⟩ : ∃ s3, s3 = (bare s).alloc (.cells (ofC k hv) .exact) := ⟨_, rfl⟩
  have hF3 : Fm (Ad a b c) (bare s) s3 := by rw [hs3]; exact (Fm.refl (s := bare s) hok).alloc _
  have n3 : s3.next = s.next + 1 := by rw [hs3]; rfl
  have old3 : ∀ i, i < s.next → s3.get i = s.get i := fun i hi => by rw [hs3]; exact St.get_alloc_ne _ _ _ (by show i ≠ s.next; omega)
  have g3 : s3.get s.next = some (.cells (ofC k hv) .exact) := by rw [hs3]; exact St.get_alloc_self _ _
  have hG3 : Gl s3 := fun i o hi => by have := hG i o hi; rw [old3 i (hok _ (hdom_of this)), this]
  have hH3 : HV s3 hv l := hH.mono fun i hi => old3 i (hok i hi)
  obtain ⟨aa, cp, hvf⟩ := hH.form
  change W tbZ _ _ ((bare s).alloc (.cells (ofC k hv) .exact)) _
  rw [← hs3]
  have hret : ∀ (tm : Tr Value) (s2 : St) (v4 v5 : Value), tmA tm 4 = v4 → tmA tm 5 = v5 → OpR s k l n a b c (.tuple #[v4, v5]) (keepMods s s2) → (AX.ret = AX.normal ∨ AX.ret = AX.ret) ∧ (⟨tm, [], false, 6⟩ : AA).df = [] ∧ ∃ vs, resA tbZ.ty s2 tm Tryz.f6.results.toList = some vs ∧ OpR s k l n a b c (tup vs) (keepMods s s2) := fun tm s2 v4 v5 h4 h5 hR => by
    refine ⟨.inr rfl, rfl, [v4, v5], ?_, hR⟩
    rw [show Tryz.f6.results.toList = [.tmp 4, .tmp 5] from rfl, res2, h4, h5]
  refine W.seq (W.seq (W.region ?_))
  refine WR.val rfl (by simp only [push_cast, tbZ_ty, Nat.reduceEqDiff, ↓reduceIte]; exact ld24 _ _ k hv g3) ?_
  refine WR.call rfl (by simp only [push_cast, tbZ_ty, Nat.reduceEqDiff, ↓reduceIte]; rfl) (CP.rel (R := RMay) (by rfl) (v := .bool (mayV k l)) (s' := s3) ⟨k, hv, l, rfl, hH3, hl, rfl, rfl⟩) ?_
  rintro v s3 ⟨k', hv', l', hargs, hH', hl', hv1, rfl⟩
  have hbm : v = .bool (mayV k l) := by
    simp only [List.nil_append, List.append_nil, List.cons.injEq, Value.agg.injEq, and_true] at hargs
    have := congrArg Array.toList hargs
    simp only [List.cons.injEq, Value.string.injEq, and_true] at this
    obtain ⟨hk', hhv⟩ := this
    subst hk'; subst hhv
    rw [hv1, hH'.uniq hH3]
  subst hbm
  clear hv1 hH' hl' hargs
  refine WR.val rfl (by simp only [push_cast, tbZ_ty, Nat.reduceEqDiff, ↓reduceIte]; rfl) (WR.nil ?_)
  refine W.cond (b := !mayV k l) (by simp only [push_cast, tbZ_ty, Nat.reduceEqDiff, ↓reduceIte]) (fun hcnd => W.seq (W.region ?_)) (fun hcnd => W.skip ?_)
  · refine WR.val rfl (by simp only [push_cast, tbZ_ty, Nat.reduceEqDiff, ↓reduceIte]; exact mki _ _) ?_
    iterate 2 refine WR.val rfl (by simp only [push_cast, tbZ_ty, Nat.reduceEqDiff, ↓reduceIte]; rfl) ?_
    refine WR.nil (W.ret (hret _ _ (.pointer none) (.iface 36 (.int .i64 160)) (by simp only [push_cast, tbZ_ty, Nat.reduceEqDiff, ↓reduceIte]) (by simp only [push_cast, tbZ_ty, Nat.reduceEqDiff, ↓reduceIte]) ⟨hF3.keep hok, .inl ⟨fun hm => ?_, rfl⟩⟩))
    rw [mayV_true hm] at hcnd; cases hcnd
  have hmay : mayP k l := Classical.byContradiction fun h => by rw [mayV_false h] at hcnd; cases hcnd
  have gA : ∀ i o, s0.get i = some o → ∀ j, Ad a b c j → j ≠ i := fun i o hi j hj e => by
    have h1 := hG i o hi
    have h2 := s0_ro i o hi
    rcases hj with rfl | rfl | rfl
    · subst e; rw [ha] at h1; cases h1; cases h2
    · subst e; rw [hb] at h1; cases h1; cases h2
    · subst e; rw [hc] at h1; cases h1; cases h2
  have hbc : d ≠ a ∧ d ≠ b ∧ d ≠ c := by
    refine ⟨fun e => ?_, fun e => ?_, fun e => ?_⟩
    · rw [e, ha] at hd; cases hd
    · rw [e, hb] at hd; cases hd
    · rw [e, hc] at hd; unfold boxC diskC at hd; cases hd
  refine W.seq (W.region ?_)
  refine WR.val rfl (by simp only [push_cast, tbZ_ty, Nat.reduceEqDiff, ↓reduceIte, e0]; rfl) ?_
  have hso : ∃ v s', RSo [.pointer (some ⟨d, 0, none⟩)] s3 v s' := by
    by_cases h4 : n < 4
    · exact ⟨_, _, n, a, b, c, d, rfl, hG3, hn, by rw [old3 a la, ha], by rw [old3 b lb, hb], hab, by rw [old3 c lc, hc], by rw [old3 d ld, hd], .inl ⟨h4, rfl, rfl⟩⟩
    · exact ⟨_, _, n, a, b, c, d, rfl, hG3, hn, by rw [old3 a la, ha], by rw [old3 b lb, hb], hab, by rw [old3 c lc, hc], by rw [old3 d ld, hd], .inr ⟨by omega, rfl, rfl⟩⟩
  obtain ⟨vs0, ss0, hso⟩ := hso
  refine WR.call rfl (by simp only [push_cast, tbZ_ty, Nat.reduceEqDiff, ↓reduceIte]; rfl) (CP.rel (R := RSo) (by rfl) hso) ?_
  rintro v s4 ⟨n', a', b', c', d', hargs, _, _, _, _, _, hc', hd', hcase⟩
  obtain ⟨rfl, rfl, rfl, rfl, rfl⟩ : n = n' ∧ a = a' ∧ b = b' ∧ c = c' ∧ d = d' := by
    simp only [List.nil_append, List.append_nil, List.cons.injEq, Value.pointer.injEq, Option.some.injEq, Addr.mk.injEq, and_true] at hargs
    subst hargs
    rw [old3 d ld, hd] at hd'
    simp only [Option.some.injEq, AObj.cells.injEq, diskC, List.cons.injEq, Value.pointer.injEq, Addr.mk.injEq, Value.int.injEq, true_and, and_true] at hd'
    obtain ⟨rfl, hnn⟩ := hd'
    rw [old3 c lc, hc] at hc'
    simp only [Option.some.injEq, AObj.cells.injEq, boxC, List.cons.injEq, Value.map.injEq, Value.int.injEq, true_and, and_true] at hc'
    obtain ⟨_, rfl, rfl⟩ := hc'
    exact ⟨by omega, rfl, rfl, rfl, rfl⟩
  clear hso hargs hc' hd'
  rcases hcase with ⟨h4, rfl, rfl⟩ | ⟨h4, rfl, rfl⟩
  · iterate 5 refine WR.val rfl (by simp only [push_cast, tbZ_ty, Nat.reduceEqDiff, ↓reduceIte]; rfl) ?_
    refine WR.nil (W.seq (W.seq (W.region ?_)))
    iterate 2 refine WR.val rfl (by simp only [push_cast, tbZ_ty, Nat.reduceEqDiff, ↓reduceIte]; rfl) ?_
    refine WR.nil (W.cond (b := !false) (by simp only [push_cast, tbZ_ty, Nat.reduceEqDiff, ↓reduceIte]) (fun _ => W.seq (W.seq (W.region ?_))) (fun h => by cases h))
    refine WR.val rfl (by simp only [push_cast, tbZ_ty, Nat.reduceEqDiff, ↓reduceIte]; rfl) ?_
    refine WR.val rfl (by simp only [push_cast, tbZ_ty, Nat.reduceEqDiff, ↓reduceIte]; exact mki _ _) ?_
    refine WR.call rfl (by simp only [push_cast, tbZ_ty, Nat.reduceEqDiff, ↓reduceIte]; rfl) (CP.nat (by rfl) (show nErrIs 36 [.iface 36 (.int .i64 1), .iface 36 (.int .i64 110)] _ = some (.bool false, _) from rfl)) ?_
    rintro _ s5 ⟨rfl, rfl⟩
    refine WR.nil (W.cond (b := false) (by simp only [push_cast, tbZ_ty, Nat.reduceEqDiff, ↓reduceIte]) (fun h => by cases h) (fun _ => W.skip ?_))
    refine W.seq (W.region ?_)
    iterate 3 refine WR.val rfl (by simp only [push_cast, tbZ_ty, Nat.reduceEqDiff, ↓reduceIte]; rfl) ?_
    refine WR.nil (W.ret (hret _ _ (.pointer none) (.iface 36 (.int .i64 1)) (by simp only [push_cast, tbZ_ty, Nat.reduceEqDiff, ↓reduceIte]) (by simp only [push_cast, tbZ_ty, Nat.reduceEqDiff, ↓reduceIte]) ⟨hF3.keep hok, .inr (.inl ⟨hmay, h4, rfl⟩)⟩))
  obtain ⟨x, hx⟩ : ∃ x, x = s3.next := ⟨_, rfl⟩
  obtain ⟨s7, hs7⟩ : ∃ s7, s7 = soS s3 n a b c d := ⟨_, rfl⟩
  have l3 : s.next < s3.next := by omega
  have hF7 : Fm (Ad a b c) s3 s7 := by rw [hs7]; exact soS_fm s3 hF3.ok n a b c d (by omega) (by omega) (by omega)
  have hF37 : Fm (Ad a b c) (bare s) s7 := hF3.trans hF7 (fun i h => .inl h)
  have n7 : s7.next = x + 3 := by rw [hs7, hx]; rfl
  have g7x : s7.get x = some (.cells (logC d) .exact) := by
    rw [hs7, hx]; unfold soS
    rw [St.get_alloc_ne _ _ _ (by show s3.next ≠ s3.next + 2; omega), St.get_alloc_ne _ _ _ (by show s3.next ≠ s3.next + 1; omega)]
    exact St.get_alloc_self _ _
  have g7s : s7.get (x + 2) = some (.cells (storeC d x) .exact) := by
    rw [hs7, hx]; unfold soS; exact St.get_alloc_self _ _
  have old7 : ∀ i, i < s3.next → ¬ Ad a b c i → s7.get i = s3.get i := fun i hi hn => hF7.old i hi hn
  rw [← hx, ← hs7]
  iterate 5 refine WR.val rfl (by simp only [push_cast, tbZ_ty, Nat.reduceEqDiff, ↓reduceIte]; rfl) ?_
  refine WR.nil (W.seq (W.seq (W.region ?_)))
  iterate 2 refine WR.val rfl (by simp only [push_cast, tbZ_ty, Nat.reduceEqDiff, ↓reduceIte]; rfl) ?_
  refine WR.nil (W.cond (b := !true) (by simp only [push_cast, tbZ_ty, Nat.reduceEqDiff, ↓reduceIte]) (fun h => by cases h) (fun _ => W.skip ?_))
  refine W.seq (W.region ?_)
  have nA : ¬ Ad a b c s.next := by
    rintro (h | h | h) <;> omega
  have g7t : s7.get s.next = some (.cells (ofC k hv) .exact) := by rw [old7 _ l3 nA, g3]
  refine WR.val rfl (by simp only [push_cast, tbZ_ty, Nat.reduceEqDiff, ↓reduceIte]; exact faT f24_0 _ _) ?_
  refine WR.val rfl (by simp only [push_cast, tbZ_ty, Nat.reduceEqDiff, ↓reduceIte]; exact ldT one9 _ _ _ (.string k) (by show cell1 0 (s7.get s.next) = _; rw [g7t]; rfl)) ?_
  refine WR.val rfl (by simp only [push_cast, tbZ_ty, Nat.reduceEqDiff, ↓reduceIte]; rfl) ?_
  refine WR.val rfl (by simp only [push_cast, tbZ_ty, Nat.reduceEqDiff, ↓reduceIte, evP_cons, evP_nil, List.toList_toArray]; exact b70 _ _ _) ?_
  refine WR.val rfl (by simp only [push_cast, tbZ_ty, Nat.reduceEqDiff, ↓reduceIte, cells_agg]; rfl) ?_
  refine WR.val rfl (by simp only [push_cast, tbZ_ty, Nat.reduceEqDiff, ↓reduceIte]; rfl) (WR.nil ?_)
  obtain ⟨s8, hs8⟩ : ∃ s8, s8 = s7.alloc (.cells (offC k (x + 2) (.slice none 0 0)) .exact) := ⟨_, rfl⟩
  rw [n7, ← hs8]
  have hF8 : Fm (Ad a b c) (bare s) s8 := by rw [hs8]; exact hF37.alloc _
  have n8 : s8.next = x + 4 := by rw [hs8]; show s7.next + 1 = _; omega
  have g8o : s8.get (x + 3) = some (.cells (offC k (x + 2) (.slice none 0 0)) .exact) := by rw [hs8, ← n7]; exact St.get_alloc_self _ _
  have old8 : ∀ i, i < x + 3 → s8.get i = s7.get i := fun i hi => by rw [hs8]; exact St.get_alloc_ne _ _ _ (by omega)
  have g8t : s8.get s.next = some (.cells (ofC k hv) .exact) := by rw [old8 _ (by omega), g7t]
  have hG8 : Gl s8 := fun i o hi => by
    have h1 := hG3 i o hi
    have hlt := hF3.ok _ (hdom_of h1)
    rw [old8 i (by omega), old7 i hlt (fun hA => gA i o hi i hA rfl), h1]
  have hH8 : HV s8 hv l := hH.move fun bb oo nn cc e hdb => by
    have hlb := hok _ hdb
    rw [old8 bb (by omega), old7 bb (by omega) (fun hA => hfar bb hA bb oo nn cc e rfl), old3 bb hlb]
  have hko : k.data.toList.length ≤ 100000000000 := by have := hmay.2.1; omega
  obtain ⟨o, ho⟩ : ∃ o, o = x + 3 := ⟨_, rfl⟩
  rw [← ho] at g8o
  refine W.seq (W.seq (W.region ?_))
  refine WR.val rfl (by simp only [push_cast, tbZ_ty, Nat.reduceEqDiff, ↓reduceIte]; exact faT f24_1 _ _) ?_
  refine WR.val rfl (by simp only [push_cast, tbZ_ty, Nat.reduceEqDiff, ↓reduceIte]; exact ldT one22 _ _ _ hv (by show cell1 1 (s8.get s.next) = _; rw [g8t]; rfl)) ?_
  refine WR.val rfl (by simp only [push_cast, tbZ_ty, Nat.reduceEqDiff, ↓reduceIte, hvf]; rfl) ?_
  refine WR.val rfl (by simp only [push_cast, tbZ_ty, Nat.reduceEqDiff, ↓reduceIte]; rfl) (WR.nil ?_)
  refine W.block (W.loop (fun m a' s' => ∃ (j : Nat) (tm : Tr Value) (hu : Value) (ce : List Value), a' = ⟨tm, [], false, 6⟩ ∧ j + m = l.length ∧ tmA tm 3 = .pointer (some ⟨s.next, 0, none⟩) ∧ tmA tm 8 = .pointer (some ⟨o, 0, none⟩) ∧ tmA tm 35 = hv ∧ tmA tm 36 = .int .i64 (l.length : Int) ∧ tmA tm 37 = .int .i64 (j : Int) ∧
    Fm (Is1 o) s8 s' ∧ s'.get o = some (.cells (offC k (x + 2) hu) .exact) ∧ BE s8.next s' hu ce j) ?_ l.length _ _ ⟨0, _, .slice none 0 0, [], rfl, by omega, ?_, ?_, ?_, ?_, ?_, Fm.refl hF8.ok, g8o, .nil⟩)
  rotate_left
  · simp only [push_cast, tbZ_ty, Nat.reduceEqDiff, ↓reduceIte]; rfl
  · simp only [push_cast, tbZ_ty, Nat.reduceEqDiff, ↓reduceIte]; rw [ho]
  · simp only [push_cast, tbZ_ty, Nat.reduceEqDiff, ↓reduceIte]
  · simp only [push_cast, tbZ_ty, Nat.reduceEqDiff, ↓reduceIte]
  · simp only [push_cast, tbZ_ty, Nat.reduceEqDiff, ↓reduceIte]
  rintro m a' s' ⟨j, tm, hu, ce, rfl, hm, f3, f8, f35, f36, f37, hFs, hgo, hBE⟩
  refine W.seq (W.region ?_)
  refine WR.val rfl (by simp only [push_cast, tbZ_ty, Nat.reduceEqDiff, ↓reduceIte, f36, f37]; rfl) (WR.nil ?_)
  refine W.seq (W.cond (b := decide ((j : Int) < (l.length : Int))) (by simp only [push_cast, tbZ_ty, Nat.reduceEqDiff, ↓reduceIte]) (fun hb => W.skip ?_) (fun hb => W.exit ?_))
  · have hj : j < l.length := by have := of_decide_eq_true hb; omega
    have ot : s'.get s.next = some (.cells (ofC k hv) .exact) := by rw [hFs.old s.next (by omega) (by show ¬ s.next = o; omega), g8t]
    have hHs : HV s' hv l := hH8.move fun bb oo nn cc e hdb => by
      refine hFs.old bb (hF8.ok _ hdb) ?_
      show ¬ bb = o
      intro e2
      have hlt : bb < s.next := by
        rcases hH.inv with ⟨rfl, a1, c1, rfl⟩ | ⟨h0, b1, o1, c1, e1, cells, md, hgb, _⟩
        · simp at hj
        · rw [e1] at e
          simp only [Value.slice.injEq, Option.some.injEq, Addr.mk.injEq] at e
          rw [← e.1.1]; exact hok _ (hdom_of hgb)
      omega
    obtain ⟨p, hix, hld⟩ := hHs.elem hj
    have hGs : Gl s' := Gl.fm hG8 hF8.ok hFs (fun i hi ob hob => by
      have : i = o := hi
      subst this
      rw [g8o] at hob; cases hob; rfl)
    refine W.seq (W.block (W.seq (W.region ?_)))
    refine WR.val rfl (by simp only [push_cast, tbZ_ty, Nat.reduceEqDiff, ↓reduceIte, f35, f37]; exact hix _ _) ?_
    refine WR.val rfl (by simp only [push_cast, tbZ_ty, Nat.reduceEqDiff, ↓reduceIte]; exact hld _ rfl) ?_
    refine WR.val rfl (by simp only [push_cast, tbZ_ty, Nat.reduceEqDiff, ↓reduceIte]; rfl) (WR.nil (W.seq (W.region ?_)))
    refine WR.val rfl (by simp only [push_cast, tbZ_ty, Nat.reduceEqDiff, ↓reduceIte, f3]; exact faT f24_0 _ _) ?_
    refine WR.val rfl (by simp only [push_cast, tbZ_ty, Nat.reduceEqDiff, ↓reduceIte]; exact ldT one9 _ _ _ (.string k) (by rw [ot]; rfl)) ?_
    refine WR.val rfl (by simp only [push_cast, tbZ_ty, Nat.reduceEqDiff, ↓reduceIte]; rfl) ?_
    obtain ⟨str0, e0', hsec0⟩ := sec_R s' hFs.ok hGs k (atI l j) hko
    refine WR.call rfl (by simp only [push_cast, tbZ_ty, Nat.reduceEqDiff, ↓reduceIte]; rfl) (CP.rel (R := RSec) (by rfl) hsec0) ?_
    rintro _ s' ⟨str, er, rfl, rfl, _⟩
    refine WR.val rfl (by simp only [push_cast, tbZ_ty, Nat.reduceEqDiff, ↓reduceIte]; rfl) ?_
    iterate 4 refine WR.val rfl (by simp only [push_cast, tbZ_ty, Nat.reduceEqDiff, ↓reduceIte]; rfl) ?_
    refine WR.nil (W.draw ?_)
    have hoks := hFs.ok
    have los : o < s'.next := by have := hFs.next; omega
    have n8s := hFs.next
    iterate 2 refine WD.q rfl rfl (by simp only [push_cast, tbZ_ty, Nat.reduceEqDiff, ↓reduceIte, f8]; rfl) ?_
    refine WD.q rfl rfl (by simp only [push_cast, tbZ_ty, Nat.reduceEqDiff, ↓reduceIte]; rfl) ?_
    refine WD.q rfl rfl (by simp only [push_cast, tbZ_ty, Nat.reduceEqDiff, ↓reduceIte]; exact faT f70_2 _ _) ?_
    refine WD.q rfl rfl (by simp only [push_cast, tbZ_ty, Nat.reduceEqDiff, ↓reduceIte]; exact ldT one68 _ _ _ hu (by rw [bare_get, hgo]; rfl)) ?_
    iterate 2 refine WD.q rfl rfl (by simp only [push_cast, tbZ_ty, Nat.reduceEqDiff, ↓reduceIte]; rfl) ?_
    refine WD.call rfl rfl (by simp only [push_cast, tbZ_ty, Nat.reduceEqDiff, ↓reduceIte]; rfl) (rec_Z (bare s') hoks) (fun v s2 ⟨_, h⟩ => by rw [h]; exact apartB_empty _ _) ?_
    rintro _ _ ⟨rfl, rfl⟩
    rw [join_alloc]
    change WD tbZ _ _ _ _ [] _ _ _
    obtain ⟨sr, hsr⟩ : ∃ sr, sr = s'.alloc (.cells [.int .i64 0] .exact) := ⟨_, rfl⟩
    have hFr : Fm (Is1 o) s8 sr := by rw [hsr]; exact hFs.alloc _
    have nr : sr.next = s'.next + 1 := by rw [hsr]; rfl
    have gro : sr.get o = some (.cells (offC k (x + 2) hu) .exact) := by rw [hsr, St.get_alloc_ne _ _ _ (by omega), hgo]
    have hBr : BE s8.next sr hu ce j := hBE.same fun i _ hi => by rw [hsr]; exact St.get_alloc_ne _ _ _ (by have := hoks i hi; omega)
    rw [← hsr]
    refine WD.q rfl rfl (by simp only [push_cast, tbZ_ty, Nat.reduceEqDiff, ↓reduceIte, evP_cons, evP_nil, List.toList_toArray]; exact b76 _ _ _ _) ?_
    refine WD.val rfl rfl (by simp only [push_cast, tbZ_ty, Nat.reduceEqDiff, ↓reduceIte, elem68, evP_cons, evP_nil, List.toList_toArray]; exact bsE (bare sr) _ _ _) rfl (apartB_empty _ _) ?_
    rw [join_alloc]
    obtain ⟨ec, hec⟩ : ∃ ec, ec = endC (atI l j) str (bare s').next := ⟨_, rfl⟩
    have hel : ec.length = 3 := by rw [hec]; rfl
    have heo : allOne ec = true := by rw [hec]; rfl
    rw [← hec]
    obtain ⟨se, hse⟩ : ∃ se, se = sr.alloc (.cells ec .exact) := ⟨_, rfl⟩
    have hFe : Fm (Is1 o) s8 se := by rw [hse]; exact hFr.alloc _
    have ne' : se.next = s'.next + 2 := by rw [hse]; show sr.next + 1 = _; omega
    have geo : se.get o = some (.cells (offC k (x + 2) hu) .exact) := by rw [hse, St.get_alloc_ne _ _ _ (by omega), gro]
    have hBe : BE s8.next (bare se) hu ce j := hBr.same fun i _ hi => by rw [bare_get, hse]; exact St.get_alloc_ne _ _ _ (by have := hFr.ok i hi; omega)
    have gex : (bare se).get sr.next = some (.cells ec .exact) := by rw [bare_get, hse]; exact St.get_alloc_self _ _
    rw [← hse]
    have hl4 : l.length ≤ 4 := hmay.2.2.2
    obtain ⟨sA, happ, hBA, hFA, hform⟩ := appe_one (bare se) hu ce j s8.next sr.next ec hBe hel heo gex (by omega)
    refine WD.eff rfl rfl (by simp only [push_cast, tbZ_ty, Nat.reduceEqDiff, ↓reduceIte]; exact happ) rfl ?_ ?_
    · repeat refine apartB_tag (by rfl) ?_
      exact apartB_nil _ _
    refine WD.val rfl rfl (by simp only [push_cast, tbZ_ty, Nat.reduceEqDiff, ↓reduceIte]; rfl) rfl (apartB_empty _ _) ?_
    rw [join_bare]
    refine WD.val rfl rfl (by simp only [push_cast, tbZ_ty, Nat.reduceEqDiff, ↓reduceIte]; exact faT f70_2 _ _) rfl (apartB_empty _ _) ?_
    rw [join_bare]
    have hFA1 : Fm (Is1 o) s8 sA := hFA (Is1 o) s8 (Nat.le_refl _) hFe.ok hFe.bare
    have gAo : sA.get o = some (.cells (offC k (x + 2) hu) .exact) := by
      rcases hform with ⟨rfl, _⟩ | ⟨b1, hb1, _, rfl⟩
      · rw [St.get_alloc_ne _ _ _ (by show o ≠ se.next; omega), bare_get, geo]
      · rw [St.get_alloc_ne _ _ _ (by show o ≠ se.next; omega), St.get_upd_ne _ _ _ _ (by omega), bare_get, geo]
    have hBA1 := hBA (by show s8.next ≤ se.next; omega)
    refine WD.do rfl rfl (by simp only [push_cast, tbZ_ty, Nat.reduceEqDiff, ↓reduceIte]; exact stT one68 (bare (joinMods se sA)) _ _ _ _ rfl (by rw [bare_get]; exact gAo) (by simp [offC])) rfl ?_ (WD.nil ?_)
    · repeat refine apartB_tag (by rfl) ?_
      exact apartB_nil _ _
    rw [join_upd]
    refine W.region ?_
    iterate 2 refine WR.val rfl (by simp only [push_cast, tbZ_ty, Nat.reduceEqDiff, ↓reduceIte, f37]; rfl) ?_
    have hFj : Fm (Is1 o) s8 (joinMods se sA) := hFe.join2 hFA1
    refine WR.nil ⟨m - 1, by omega, j + 1, _, .slice (some ⟨(bare se).next, 0, none⟩) (j + 1) (cap0 + 3), ce ++ ec, rfl, by omega, ?_, ?_, ?_, ?_, ?_, hFj.upd _ (.inl rfl) (by have := hFA1.next; show o < sA.next; omega), St.get_upd_self _ _ _, hBA1.same fun i hi _ => by rw [St.get_upd_ne _ _ _ _ (by omega)]; rfl⟩
    · simp only [push_cast, tbZ_ty, Nat.reduceEqDiff, ↓reduceIte, f3]
    · simp only [push_cast, tbZ_ty, Nat.reduceEqDiff, ↓reduceIte, f8]
    · simp only [push_cast, tbZ_ty, Nat.reduceEqDiff, ↓reduceIte, f35]
    · simp only [push_cast, tbZ_ty, Nat.reduceEqDiff, ↓reduceIte, f36]
    · simp only [push_cast, tbZ_ty, Nat.reduceEqDiff, ↓reduceIte]
      rw [show ((j : Int) + 1) = ((j + 1 : Nat) : Int) from by omega, i64_in _ (by omega)]
  · have hj : j = l.length := by have := of_decide_eq_false hb; omega
    subst hj
    have hl1 : 1 ≤ l.length := hmay.2.2.1
    obtain ⟨hb1, cap, rfl, hge, hdh⟩ := hBE.pos (by omega)
    refine W.seq (W.region ?_)
    iterate 3 refine WR.val rfl (by simp only [push_cast, tbZ_ty, Nat.reduceEqDiff, ↓reduceIte, f8]; rfl) ?_
    have hFin : Fm (Ad a b c) (bare s) s' := hF8.trans hFs (fun i hi => .inr (by have : i = o := hi; show s.next ≤ i; omega))
    have dget : hdom s'.get d := by
      have h1 : s'.get d = s.get d := by
        rw [hFs.old d (by omega) (by show ¬ d = o; omega), old8 d (by omega), old7 d (by omega) (by rintro (h | h | h) <;> omega), old3 d ld]
      exact hdom_of (h1.trans hd)
    have sg : ∀ i, i < x + 3 → s'.get i = s7.get i := fun i hi => by rw [hFs.old i (by omega) (by show ¬ i = o; omega), old8 i hi]
    refine WR.nil (W.ret (hret _ _ (.pointer (some ⟨o, 0, none⟩)) .nilIface (by simp only [push_cast, tbZ_ty, Nat.reduceEqDiff, ↓reduceIte]) (by simp only [push_cast, tbZ_ty, Nat.reduceEqDiff, ↓reduceIte]) ⟨hFin.keep hok, .inr (.inr ⟨hmay, h4, o, x + 2, d, x, hb1, l.length, cap, rfl, ?_⟩)⟩))
    exact ⟨hgo, by rw [show (keepMods s s').get = s'.get from rfl, sg _ (by omega), g7s], dget, hdom_of (show s'.get x = _ by rw [sg _ (by omega), g7x]), hdh, by omega, by omega⟩
end Go.Proofs.Ae
namespace Go.Proofs.Ae
open Go.Proofs
set_option maxHeartbeats 8000000
noncomputable def ins_0 : Array Oper := opsAt Tryz.f3 [0]
noncomputable def ins_1 : Array Oper := opsAt Tryz.f3 [1, 0]
noncomputable def ins_2 : Array Oper := opsAt Tryz.f3 [1, 1, 0]
noncomputable def ins_3 : Array Oper := opsAt Tryz.f3 [1, 1, 1, 0]
noncomputable def ins_4 : Array Oper := opsAt Tryz.f3 [1, 1, 1, 1, 0]
noncomputable def ins_5 : Array Oper := opsAt Tryz.f3 [1, 1, 1, 1, 1, 0]
noncomputable def ins_6 : Array Oper := opsAt Tryz.f3 [1, 1, 1, 1, 1, 1, 0, 0]
noncomputable def ins_7 : Array Oper := opsAt Tryz.f3 [1, 1, 1, 1, 1, 1, 0, 1, 0, 0]
noncomputable def ins_8 : Array Oper := opsAt Tryz.f3 [1, 1, 1, 1, 1, 1, 1, 0, 0]
noncomputable def ins_9 : Array Oper := opsAt Tryz.f3 [1, 1, 1, 1, 1, 1, 1, 0, 1, 0, 0]
noncomputable def ins_10 : Array Oper := opsAt Tryz.f3 [1, 1, 1, 1, 1, 1, 1, 1, 0]
theorem ins_body : Tryz.f3.body = some (.seq (.region 0 ins_0 false) (.seq (.region 1 ins_1 false) (.seq (.region 2 ins_2 false) (.seq (.region 3 ins_3 false) (.seq (.region 4 ins_4 true) (.seq (.region 5 ins_5 false) (.seq (.seq (.region 6 ins_6 false) (.cond (.tmp 37) (.seq (.region 7 ins_7 false) .ret) .skip)) (.seq (.seq (.region 8 ins_8 false) (.cond (.tmp 39) (.seq (.region 9 ins_9 false) .ret) .skip)) (.seq (.region 10 ins_10 false) .ret))))))))) := by kernel_rfl
theorem wanted_undef {ops : List Oper} {j : Nat} {want : Bool} {d : Nat} {tm : Tr Value} (h : (ops[j]?).bind (·.dst) = some d) (hb : tmA tm d = undefA) : wantedA ops (some (j, want)) tm = false := by
  unfold wantedA
  cases hj : ops[j]? with
  | none => rw [hj] at h; cases h
  | some oj =>
    rw [hj] at h
    simp only [Option.bind_some] at h
    unfold tmA at hb
    cases hg : tm.get d with
    | none => simp only [hj, h, hg]; rfl
    | some v =>
      rw [hg] at hb
      have hb : v = undefA := hb
      subst hb
      simp only [hj, h, hg]; rfl
theorem RMay_uniq {k : ByteArray} {hv : Value} {l : List Int} {s s' : St} {v : Value} (h : RMay [.agg #[.string k, hv]] s v s') (hH : HV s hv l) : v = .bool (mayV k l) ∧ s' = s := by
  obtain ⟨k', hv', l', hargs, hH', hl', hv1, rfl⟩ := h
  simp only [List.cons.injEq, Value.agg.injEq, and_true] at hargs
  have := congrArg Array.toList hargs
  simp only [List.cons.injEq, Value.string.injEq, and_true] at this
  obtain ⟨hk', hhv⟩ := this
  subst hk'; subst hhv
  exact ⟨by rw [hv1, hH'.uniq hH], rfl⟩
theorem WR.passU {tb : Tb} {ops l : List Oper} {o : Oper} {a : AA} {s : St} {Q : AA → St → Prop} {j d : Nat} {want : Bool} (hg : o.guard = some (j, want)) (h : (ops[j]?).bind (·.dst) = some d) (hb : tmA a.tm d = undefA) (k : WR tb ops l (a.put o.dst undefA) s Q) : WR tb ops (o :: l) a s Q :=
  WR.pass (by rw [hg, wanted_undef h hb]) k
theorem bound60 (x : Int) : ∃ n : Nat, n ≤ 60 ∧ minI (maxI x 0) 60 = (n : Int) := by
  unfold minI maxI
  rw [ltI_eq, ltI_eq]
  by_cases h1 : x < 0
  · rw [decide_eq_true h1, cond_true, decide_eq_false (by omega), cond_false]; exact ⟨0, by omega, rfl⟩
  · rw [decide_eq_false h1, cond_false]
    by_cases h2 : (60 : Int) < x
    · rw [decide_eq_true h2, cond_true]; exact ⟨60, by omega, rfl⟩
    · rw [decide_eq_false h2, cond_false]; exact ⟨x.toNat, by omega, by omega⟩
theorem errG0 : errG 182 7 30 (some (.cells gErr .ro)) = true := by kernel_rfl
theorem num_Z (s : St) (hG : Gl s) (n : Int) : CP tbZ 9 [.iface 36 (.int .i64 n)] s (fun v s' => v = .int .i64 n ∧ s' = s) := by
  obtain ⟨q0, _⟩ := hG.get
  refine CP.nat (by rfl) ?_
  show (bif Nat.beq 36 36 && errG 182 7 30 (s.get 0) then _ else _) = _
  rw [q0, errG0]; rfl
theorem ins_Z (s : St) (hok : s.Ok) (hG : Gl s) (k : ByteArray) (hv : Value) (l : List Int) (hH : HV s hv l) (hl : l.length < 9223372036854775808) (hbb : ∀ bb oo n' cc, hv = .slice (some ⟨bb, oo, none⟩) n' cc → bb < s.next) (h7 : 7 < s.next) (sec : Int) :
    CP tbZ 3 [.agg #[.string k, hv], .int .i64 sec] s (fun v s' => v = .bool true ∧ Fm Nil0 s s') := by
  refine CP.of rfl (by kernel_rfl) ins_body (Nat.le_of_ble_eq_true rfl) ?_
  have e0 : tmA (argsTr [.agg #[.string k, hv], .int .i64 sec] 0 .nil) 0 = .agg #[.string k, hv] := rfl
  have e1 : tmA (argsTr [.agg #[.string k, hv], .int .i64 sec] 0 .nil) 1 = .int .i64 sec := rfl
  generalize argsTr [.agg #[.string k, hv], .int .i64 sec] 0 .nil = t0 at e0 e1 ⊢
  obtain ⟨n, hn, hnn⟩ := bound60 sec
  refine W.seq (W.region ?_)
  refine WR.val rfl (by simp only [push_cast, tbZ_ty, Nat.reduceEqDiff, ↓reduceIte, e0]; rfl) ?_
  refine WR.val rfl (by simp only [push_cast, tbZ_ty, Nat.reduceEqDiff, ↓reduceIte]; rfl) (WR.nil ?_)
  obtain ⟨s1, hs1⟩ : ∃ s1, s1 = (bare s).alloc (.cells (ofC k hv) .exact) := ⟨_, rfl⟩
  have hF1 : Fm Nil0 (bare s) s1 := by rw [hs1]; exact (Fm.refl (s := bare s) hok).alloc _
  have n1 : s1.next = s.next + 1 := by rw [hs1]; rfl
  have old1 : ∀ i, i < s.next → s1.get i = s.get i := fun i hi => by rw [hs1]; exact St.get_alloc_ne _ _ _ (by show i ≠ s.next; omega)
  have g1 : s1.get s.next = some (.cells (ofC k hv) .exact) := by rw [hs1]; exact St.get_alloc_self _ _
  have hG1 : Gl s1 := fun i o hi => by have := hG i o hi; rw [old1 i (hok _ (hdom_of this)), this]
  change W tbZ _ _ ((bare s).alloc (.cells (ofC k hv) .exact)) _
  rw [← hs1]
  refine W.seq (W.region ?_)
  refine WR.call rfl (by simp only [push_cast, tbZ_ty, Nat.reduceEqDiff, ↓reduceIte]; rfl) (CP.rel (R := RAw) (by rfl) (v := .bool true) (s' := s1) ⟨rfl, hG1, rfl, rfl⟩) ?_
  rintro _ s1 ⟨_, _, rfl, rfl⟩
  refine WR.val rfl (by simp only [push_cast, tbZ_ty, Nat.reduceEqDiff, ↓reduceIte]; rfl) (WR.nil ?_)
  refine W.seq (W.region ?_)
  refine WR.val rfl (by simp only [push_cast, tbZ_ty, Nat.reduceEqDiff, ↓reduceIte, e1]; rfl) ?_
  refine WR.val rfl (by simp only [push_cast, tbZ_ty, Nat.reduceEqDiff, ↓reduceIte]; rfl) ?_
  refine WR.val rfl (by simp only [push_cast, tbZ_ty, Nat.reduceEqDiff, ↓reduceIte]; rfl) ?_
  refine WR.val rfl (by simp only [push_cast, tbZ_ty, Nat.reduceEqDiff, ↓reduceIte]; rfl) (WR.nil ?_)
  refine W.seq (W.region ?_)
  refine WR.val rfl (by simp only [push_cast, tbZ_ty, Nat.reduceEqDiff, ↓reduceIte, hnn]; rfl) ?_
  refine WR.call rfl (by simp only [push_cast, tbZ_ty, Nat.reduceEqDiff, ↓reduceIte]; rfl) (new_Z s1 hF1.ok n) ?_
  rintro _ s2 ⟨rfl, hF2, n2, g2a, g2b, g2c, g2h⟩
  refine WR.val rfl (by simp only [push_cast, tbZ_ty, Nat.reduceEqDiff, ↓reduceIte]; rfl) (WR.nil ?_)
  obtain ⟨a, ha⟩ : ∃ a, a = s1.next := ⟨_, rfl⟩
  obtain ⟨b, hb⟩ : ∃ b, b = a + 1 := ⟨_, rfl⟩
  obtain ⟨c, hc⟩ : ∃ c, c = a + 2 := ⟨_, rfl⟩
  obtain ⟨h, hh⟩ : ∃ h, h = a + 3 := ⟨_, rfl⟩
  rw [← ha] at g2a g2b g2c g2h n2 ⊢
  rw [← hb] at g2b g2c
  rw [← hc] at g2c g2h
  rw [← hh] at g2h ⊢
  have hF12 : Fm Nil0 (bare s) s2 := hF1.trans hF2 (fun _ h => h.elim)
  have old2 : ∀ i, i < s.next + 1 → s2.get i = s1.get i := fun i hi => hF2.old i (by omega) (by simp [Nil0])
  refine W.seq (W.draw ?_)
  refine WD.q rfl rfl (by simp only [push_cast, tbZ_ty, Nat.reduceEqDiff, ↓reduceIte]; rfl) ?_
  refine WD.call rfl rfl (by simp only [push_cast, tbZ_ty, Nat.reduceEqDiff, ↓reduceIte]; rfl) (disk_Z (bare s2) hF2.ok h c a b n g2h g2c) (fun v s3 hD => by rw [hD.mods]; exact apartB_empty _ _) ?_
  rintro _ s3 ⟨rfl, hF3, n3, g3d, m3⟩
  rw [m3]
  change WD tbZ _ _ _ _ [] _ _ _
  obtain ⟨d, hd⟩ : ∃ d, d = h + 1 := ⟨_, rfl⟩
  have n2' : (bare s2).next = d := by show s2.next = d; omega
  rw [n2'] at g3d n3 ⊢
  obtain ⟨s3j, hs3j⟩ : ∃ s3j, s3j = joinMods s2 s3 := ⟨_, rfl⟩
  have hF3j : Fm Nil0 s2 s3j := by rw [hs3j]; exact hF3.join
  have hF13 : Fm Nil0 (bare s) s3j := hF12.trans hF3j (fun _ h => h.elim)
  have n3j : s3j.next = d + 1 := by rw [hs3j]; exact n3
  have g3j : s3j.get d = some (.cells (diskC c n) .exact) := by rw [hs3j]; exact g3d
  have old3 : ∀ i, i < d → s3j.get i = s2.get i := fun i hi => hF3j.old i (by omega) (by simp [Nil0])
  have g3t : s3j.get s.next = some (.cells (ofC k hv) .exact) := by rw [old3 _ (by omega), old2 _ (by omega), g1]
  have hG3 : Gl s3j := Gl.fm (s := bare s) hG hok hF13 (fun i h => h.elim)
  have oldS : ∀ i, i < s.next → s3j.get i = s.get i := fun i hi => by rw [old3 i (by omega), old2 i (by omega), old1 i hi]
  have hH3 : HV s3j hv l := hH.move fun bb oo nn cc e hdb => oldS bb (hok _ hdb)
  rw [← hs3j]
  refine WD.q rfl rfl (by simp only [push_cast, tbZ_ty, Nat.reduceEqDiff, ↓reduceIte]; exact ld24 (bare s3j) _ k hv g3t) ?_
  refine WD.call rfl rfl (by simp only [push_cast, tbZ_ty, Nat.reduceEqDiff, ↓reduceIte]; rfl) (open_Z (bare s3j) hF3j.ok hG3 k hv l (hH3.bare) hl n a b c d hn (by rw [bare_get, old3 a (by omega), g2a]) (by rw [bare_get, old3 b (by omega), g2b]) (by omega) (by rw [bare_get, old3 c (by omega), g2c]) g3j (by omega)
    (fun i hi bb oo nn cc e => by have := hbb bb oo nn cc e; rcases hi with rfl | rfl | rfl <;> omega)) (fun v s4 hO => by
      repeat refine apartB_tag (by rfl) ?_
      exact apartB_nil _ _) ?_
  rintro vo s4 ⟨hF4, hcase⟩
  obtain ⟨s5, hs5⟩ : ∃ s5, s5 = joinMods s3j s4 := ⟨_, rfl⟩
  have hF5j : Fm (Ad a b c) s3j s5 := by rw [hs5]; exact hF4.join
  have hF5 : Fm Nil0 (bare s) s5 := hF13.trans hF5j (fun i hi => .inr (by show s.next ≤ i; rcases hi with rfl | rfl | rfl <;> omega))
  have oldO : ∀ i, i < s.next + 1 → s5.get i = s3j.get i := fun i hi => hF5j.old i (by omega) (by rintro (h | h | h) <;> omega)
  have g5t : s5.get s.next = some (.cells (ofC k hv) .exact) := by rw [oldO _ (by omega), g3t]
  have hG5 : Gl s5 := Gl.fm (s := bare s) hG hok hF5 (fun i h => h.elim)
  have hH5 : HV s5 hv l := hH.move fun bb oo nn cc e hdb => by rw [oldO bb (by have := hok _ hdb; omega), oldS bb (hok _ hdb)]
  rw [← hs5]
  have get5 : s5.get = s4.get := by rw [hs5]; rfl
  rcases hcase with ⟨hnm, rfl⟩ | ⟨hm, h4, rfl⟩ | ⟨hm, h4, o, st, dd, ll, hu, mm, cap, rfl, hT⟩
  · skip
    refine WD.val rfl rfl (by simp only [push_cast, tbZ_ty, Nat.reduceEqDiff, ↓reduceIte]; rfl) rfl (apartB_empty _ _) ?_
    rw [join_bare]
    refine WD.val rfl rfl (by simp only [push_cast, tbZ_ty, Nat.reduceEqDiff, ↓reduceIte]; rfl) rfl (apartB_empty _ _) ?_
    rw [join_bare]
    refine WD.val rfl rfl (by simp only [push_cast, tbZ_ty, Nat.reduceEqDiff, ↓reduceIte]; rfl) rfl (apartB_empty _ _) ?_
    rw [join_bare]
    refine WD.val rfl rfl (by simp only [push_cast, tbZ_ty, Nat.reduceEqDiff, ↓reduceIte]; rfl) rfl (apartB_empty _ _) ?_
    rw [join_bare]
    refine WD.val rfl rfl (by simp only [push_cast, tbZ_ty, Nat.reduceEqDiff, ↓reduceIte]; rfl) rfl (apartB_empty _ _) ?_
    rw [join_bare]
    refine WD.nil ?_
    refine W.seq (W.region ?_)
    refine WR.val rfl (by simp only [push_cast, tbZ_ty, Nat.reduceEqDiff, ↓reduceIte]; exact ld24 s5 _ k hv g5t) ?_
    refine WR.call rfl (by simp only [push_cast, tbZ_ty, Nat.reduceEqDiff, ↓reduceIte]; rfl) (CP.rel (R := RMay) (by rfl) (v := .bool (mayV k l)) (s' := s5) ⟨k, hv, l, rfl, hH5, hl, rfl, rfl⟩) ?_
    rintro vm sm hRm
    obtain ⟨hvm, hsm⟩ := RMay_uniq hRm hH5
    subst hsm
    rw [hvm, mayV_false hnm]
    clear hRm hvm vm
    refine WR.val rfl (by simp only [push_cast, tbZ_ty, Nat.reduceEqDiff, ↓reduceIte]; rfl) (WR.nil (W.seq (W.seq (W.region ?_))))
    iterate 3 refine WR.val rfl (by simp only [push_cast, tbZ_ty, Nat.reduceEqDiff, ↓reduceIte]; rfl) ?_
    refine WR.valG (d := 28) (b := false) rfl (by rfl) (by simp only [push_cast, tbZ_ty, Nat.reduceEqDiff, ↓reduceIte] <;> rfl) rfl (by simp only [push_cast, tbZ_ty, Nat.reduceEqDiff, ↓reduceIte]; rfl) ?_
    refine WR.valG (d := 28) (b := false) rfl (by rfl) (by simp only [push_cast, tbZ_ty, Nat.reduceEqDiff, ↓reduceIte] <;> rfl) rfl (by simp only [push_cast, tbZ_ty, Nat.reduceEqDiff, ↓reduceIte]; rfl) ?_
    refine WR.valG (d := 28) (b := false) rfl (by rfl) (by simp only [push_cast, tbZ_ty, Nat.reduceEqDiff, ↓reduceIte] <;> rfl) rfl (by simp only [push_cast, tbZ_ty, Nat.reduceEqDiff, ↓reduceIte]; rfl) ?_
    refine WR.valG (d := 28) (b := false) rfl (by rfl) (by simp only [push_cast, tbZ_ty, Nat.reduceEqDiff, ↓reduceIte] <;> rfl) rfl (by simp only [push_cast, tbZ_ty, Nat.reduceEqDiff, ↓reduceIte]; rfl) ?_
    refine WR.passG (d := 32) (b := false) rfl (by rfl) (by simp only [push_cast, tbZ_ty, Nat.reduceEqDiff, ↓reduceIte] <;> rfl) rfl ?_
    refine WR.passG (d := 32) (b := false) rfl (by rfl) (by simp only [push_cast, tbZ_ty, Nat.reduceEqDiff, ↓reduceIte] <;> rfl) rfl ?_
    refine WR.valG (d := 28) (b := false) rfl (by rfl) (by simp only [push_cast, tbZ_ty, Nat.reduceEqDiff, ↓reduceIte] <;> rfl) rfl (by simp only [push_cast, tbZ_ty, Nat.reduceEqDiff, ↓reduceIte]; rfl) ?_
    refine WR.valG (d := 28) (b := false) rfl (by rfl) (by simp only [push_cast, tbZ_ty, Nat.reduceEqDiff, ↓reduceIte] <;> rfl) rfl (by simp only [push_cast, tbZ_ty, Nat.reduceEqDiff, ↓reduceIte]; rfl) ?_
    refine WR.val rfl (by simp only [push_cast, tbZ_ty, Nat.reduceEqDiff, ↓reduceIte]; rfl) ?_
    refine WR.nil (W.cond (b := false) (by simp only [push_cast, tbZ_ty, Nat.reduceEqDiff, ↓reduceIte] <;> rfl) (fun h => by cases h) (fun _ => W.skip ?_))
    refine W.seq (W.seq (W.region ?_))
    iterate 2 refine WR.val rfl (by simp only [push_cast, tbZ_ty, Nat.reduceEqDiff, ↓reduceIte]; rfl) ?_
    refine WR.nil (W.cond (b := true) (by simp only [push_cast, tbZ_ty, Nat.reduceEqDiff, ↓reduceIte] <;> rfl) (fun _ => W.seq (W.region ?_)) (fun h => by cases h))
    refine WR.val rfl (by simp only [push_cast, tbZ_ty, Nat.reduceEqDiff, ↓reduceIte]; rfl) ?_
    refine WR.call rfl (by simp only [push_cast, tbZ_ty, Nat.reduceEqDiff, ↓reduceIte]; rfl) (num_Z _ hG5 160) ?_
    rintro _ s5 ⟨rfl, rfl⟩
    iterate 2 refine WR.val rfl (by simp only [push_cast, tbZ_ty, Nat.reduceEqDiff, ↓reduceIte]; rfl) ?_
    refine WR.nil (W.ret ⟨.inr rfl, rfl, [.bool true], ?_, rfl, hF5.keep hok⟩)
    rw [show Tryz.f3.results.toList = [.tmp 4] from rfl, res1]
    simp only [push_cast, tbZ_ty, Nat.reduceEqDiff, ↓reduceIte] <;> rfl
  · have hge : decide ((4 : Int) ≤ minI (maxI sec 0) 60) = false := decide_eq_false (by rw [hnn]; omega)
    have hlt : decide (minI (maxI sec 0) 60 < (4 : Int)) = true := decide_eq_true (by rw [hnn]; omega)
    refine WD.val rfl rfl (by simp only [push_cast, tbZ_ty, Nat.reduceEqDiff, ↓reduceIte]; rfl) rfl (apartB_empty _ _) ?_
    rw [join_bare]
    refine WD.val rfl rfl (by simp only [push_cast, tbZ_ty, Nat.reduceEqDiff, ↓reduceIte]; rfl) rfl (apartB_empty _ _) ?_
    rw [join_bare]
    refine WD.val rfl rfl (by simp only [push_cast, tbZ_ty, Nat.reduceEqDiff, ↓reduceIte]; rfl) rfl (apartB_empty _ _) ?_
    rw [join_bare]
    refine WD.val rfl rfl (by simp only [push_cast, tbZ_ty, Nat.reduceEqDiff, ↓reduceIte]; rfl) rfl (apartB_empty _ _) ?_
    rw [join_bare]
    refine WD.val rfl rfl (by simp only [push_cast, tbZ_ty, Nat.reduceEqDiff, ↓reduceIte]; rfl) rfl (apartB_empty _ _) ?_
    rw [join_bare]
    refine WD.nil ?_
    refine W.seq (W.region ?_)
    refine WR.val rfl (by simp only [push_cast, tbZ_ty, Nat.reduceEqDiff, ↓reduceIte]; exact ld24 s5 _ k hv g5t) ?_
    refine WR.call rfl (by simp only [push_cast, tbZ_ty, Nat.reduceEqDiff, ↓reduceIte]; rfl) (CP.rel (R := RMay) (by rfl) (v := .bool (mayV k l)) (s' := s5) ⟨k, hv, l, rfl, hH5, hl, rfl, rfl⟩) ?_
    rintro vm sm hRm
    obtain ⟨hvm, hsm⟩ := RMay_uniq hRm hH5
    subst hsm
    rw [hvm, mayV_true hm]
    clear hRm hvm vm
    refine WR.val rfl (by simp only [push_cast, tbZ_ty, Nat.reduceEqDiff, ↓reduceIte]; rfl) (WR.nil (W.seq (W.seq (W.region ?_))))
    iterate 3 refine WR.val rfl (by simp only [push_cast, tbZ_ty, Nat.reduceEqDiff, ↓reduceIte]; rfl) ?_
    refine WR.valG (d := 28) (b := false) rfl (by rfl) (by simp only [push_cast, tbZ_ty, Nat.reduceEqDiff, ↓reduceIte] <;> rfl) rfl (by simp only [push_cast, tbZ_ty, Nat.reduceEqDiff, ↓reduceIte]; rfl) ?_
    refine WR.valG (d := 28) (b := false) rfl (by rfl) (by simp only [push_cast, tbZ_ty, Nat.reduceEqDiff, ↓reduceIte] <;> rfl) rfl (by simp only [push_cast, tbZ_ty, Nat.reduceEqDiff, ↓reduceIte]; rfl) ?_
    refine WR.valG (d := 28) (b := false) rfl (by rfl) (by simp only [push_cast, tbZ_ty, Nat.reduceEqDiff, ↓reduceIte] <;> rfl) rfl (by simp only [push_cast, tbZ_ty, Nat.reduceEqDiff, ↓reduceIte]; rfl) ?_
    refine WR.valG (d := 28) (b := false) rfl (by rfl) (by simp only [push_cast, tbZ_ty, Nat.reduceEqDiff, ↓reduceIte] <;> rfl) rfl (by simp only [push_cast, tbZ_ty, Nat.reduceEqDiff, ↓reduceIte]; rfl) ?_
    refine WR.valG (d := 32) (b := true) rfl (by rfl) (by simp only [push_cast, tbZ_ty, Nat.reduceEqDiff, ↓reduceIte] <;> rfl) rfl (by simp only [push_cast, tbZ_ty, Nat.reduceEqDiff, ↓reduceIte]; rfl) ?_
    refine WR.valG (d := 32) (b := true) rfl (by rfl) (by simp only [push_cast, tbZ_ty, Nat.reduceEqDiff, ↓reduceIte] <;> rfl) rfl (by simp only [push_cast, tbZ_ty, Nat.reduceEqDiff, ↓reduceIte]; rfl) ?_
    refine WR.valG (d := 28) (b := false) rfl (by rfl) (by simp only [push_cast, tbZ_ty, Nat.reduceEqDiff, ↓reduceIte, hge] <;> rfl) rfl (by simp only [push_cast, tbZ_ty, Nat.reduceEqDiff, ↓reduceIte, hge]; rfl) ?_
    refine WR.valG (d := 28) (b := false) rfl (by rfl) (by simp only [push_cast, tbZ_ty, Nat.reduceEqDiff, ↓reduceIte, hge] <;> rfl) rfl (by simp only [push_cast, tbZ_ty, Nat.reduceEqDiff, ↓reduceIte, hge]; rfl) ?_
    refine WR.val rfl (by simp only [push_cast, tbZ_ty, Nat.reduceEqDiff, ↓reduceIte]; rfl) ?_
    refine WR.nil (W.cond (b := false) (by simp only [push_cast, tbZ_ty, Nat.reduceEqDiff, ↓reduceIte, hge] <;> rfl) (fun h => by cases h) (fun _ => W.skip ?_))
    refine W.seq (W.seq (W.region ?_))
    iterate 2 refine WR.val rfl (by simp only [push_cast, tbZ_ty, Nat.reduceEqDiff, ↓reduceIte]; rfl) ?_
    refine WR.nil (W.cond (b := false) (by simp only [push_cast, tbZ_ty, Nat.reduceEqDiff, ↓reduceIte] <;> rfl) (fun h => by cases h) (fun _ => W.skip ?_))
    refine W.seq (W.region ?_)
    iterate 3 refine WR.val rfl (by simp only [push_cast, tbZ_ty, Nat.reduceEqDiff, ↓reduceIte]; rfl) ?_
    refine WR.passG (d := 45) (b := false) rfl (by rfl) (by simp only [push_cast, tbZ_ty, Nat.reduceEqDiff, ↓reduceIte, hge] <;> rfl) rfl ?_
    refine WR.passG (d := 45) (b := false) rfl (by rfl) (by simp only [push_cast, tbZ_ty, Nat.reduceEqDiff, ↓reduceIte, hge] <;> rfl) rfl ?_
    refine WR.val rfl (by simp only [push_cast, tbZ_ty, Nat.reduceEqDiff, ↓reduceIte, hge]; rfl) ?_
    refine WR.val rfl (by simp only [push_cast, tbZ_ty, Nat.reduceEqDiff, ↓reduceIte]; rfl) ?_
    refine WR.passG (d := 49) (b := false) rfl (by rfl) (by simp only [push_cast, tbZ_ty, Nat.reduceEqDiff, ↓reduceIte, hge] <;> rfl) rfl ?_
    refine WR.passG (d := 49) (b := false) rfl (by rfl) (by simp only [push_cast, tbZ_ty, Nat.reduceEqDiff, ↓reduceIte, hge] <;> rfl) rfl ?_
    refine WR.passG (d := 49) (b := false) rfl (by rfl) (by simp only [push_cast, tbZ_ty, Nat.reduceEqDiff, ↓reduceIte, hge] <;> rfl) rfl ?_
    refine WR.passG (d := 49) (b := false) rfl (by rfl) (by simp only [push_cast, tbZ_ty, Nat.reduceEqDiff, ↓reduceIte, hge] <;> rfl) rfl ?_
    refine WR.val rfl (by simp only [push_cast, tbZ_ty, Nat.reduceEqDiff, ↓reduceIte, hge]; rfl) ?_
    refine WR.val rfl (by simp only [push_cast, tbZ_ty, Nat.reduceEqDiff, ↓reduceIte]; rfl) ?_
    refine WR.valG (d := 55) (b := false) rfl (by rfl) (by simp only [push_cast, tbZ_ty, Nat.reduceEqDiff, ↓reduceIte, hge] <;> rfl) rfl (by simp only [push_cast, tbZ_ty, Nat.reduceEqDiff, ↓reduceIte, hge]; rfl) ?_
    refine WR.valG (d := 55) (b := false) rfl (by rfl) (by simp only [push_cast, tbZ_ty, Nat.reduceEqDiff, ↓reduceIte, hge] <;> rfl) rfl (by simp only [push_cast, tbZ_ty, Nat.reduceEqDiff, ↓reduceIte, hge]; rfl) ?_
    refine WR.valG (d := 55) (b := false) rfl (by rfl) (by simp only [push_cast, tbZ_ty, Nat.reduceEqDiff, ↓reduceIte, hge] <;> rfl) rfl (by simp only [push_cast, tbZ_ty, Nat.reduceEqDiff, ↓reduceIte, hge]; rfl) ?_
    refine WR.valG (d := 58) (b := true) rfl (by rfl) (by simp only [push_cast, tbZ_ty, Nat.reduceEqDiff, ↓reduceIte, hlt] <;> rfl) rfl (by simp only [push_cast, tbZ_ty, Nat.reduceEqDiff, ↓reduceIte, hlt]; rfl) ?_
    refine WR.callG (d := 58) (b := true) rfl (by rfl) (by simp only [push_cast, tbZ_ty, Nat.reduceEqDiff, ↓reduceIte, hlt] <;> rfl) rfl (by simp only [push_cast, tbZ_ty, Nat.reduceEqDiff, ↓reduceIte]; rfl) (num_Z _ hG5 1) ?_
    rintro _ s5 ⟨rfl, rfl⟩
    refine WR.valG (d := 58) (b := true) rfl (by rfl) (by simp only [push_cast, tbZ_ty, Nat.reduceEqDiff, ↓reduceIte, hlt] <;> rfl) rfl (by simp only [push_cast, tbZ_ty, Nat.reduceEqDiff, ↓reduceIte, hlt]; rfl) ?_
    refine WR.valG (d := 55) (b := false) rfl (by rfl) (by simp only [push_cast, tbZ_ty, Nat.reduceEqDiff, ↓reduceIte, hlt, hge] <;> rfl) rfl (by simp only [push_cast, tbZ_ty, Nat.reduceEqDiff, ↓reduceIte, hlt, hge]; rfl) ?_
    iterate 2 refine WR.val rfl (by simp only [push_cast, tbZ_ty, Nat.reduceEqDiff, ↓reduceIte]; rfl) ?_
    refine WR.nil (W.ret ⟨.inr rfl, rfl, [.bool true], ?_, rfl, hF5.keep hok⟩)
    rw [show Tryz.f3.results.toList = [.tmp 4] from rfl, res1]
    simp only [push_cast, tbZ_ty, Nat.reduceEqDiff, ↓reduceIte] <;> rfl
  · have hge : decide ((4 : Int) ≤ minI (maxI sec 0) 60) = true := decide_eq_true (by rw [hnn]; omega)
    have hTp : RTp [.pointer (some ⟨o, 0, none⟩)] s5 (.slice none 0 0) s5 := ⟨rfl, rfl, taps_C s5 hF5.ok hG5 k mm cap o st dd ll hu (by rw [get5]; exact hT.po) (by rw [get5]; exact hT.pst) (by rw [get5]; exact hT.pd) (by rw [get5]; exact hT.pl) (by rw [get5]; exact hT.ph) hT.g7 hT.ne⟩
    refine WD.val rfl rfl (by simp only [push_cast, tbZ_ty, Nat.reduceEqDiff, ↓reduceIte]; rfl) rfl (apartB_empty _ _) ?_
    rw [join_bare]
    refine WD.val rfl rfl (by simp only [push_cast, tbZ_ty, Nat.reduceEqDiff, ↓reduceIte]; rfl) rfl (apartB_empty _ _) ?_
    rw [join_bare]
    refine WD.val rfl rfl (by simp only [push_cast, tbZ_ty, Nat.reduceEqDiff, ↓reduceIte]; rfl) rfl (apartB_empty _ _) ?_
    rw [join_bare]
    refine WD.val rfl rfl (by simp only [push_cast, tbZ_ty, Nat.reduceEqDiff, ↓reduceIte]; rfl) rfl (apartB_empty _ _) ?_
    rw [join_bare]
    refine WD.val rfl rfl (by simp only [push_cast, tbZ_ty, Nat.reduceEqDiff, ↓reduceIte]; rfl) rfl (apartB_empty _ _) ?_
    rw [join_bare]
    refine WD.nil ?_
    refine W.seq (W.region ?_)
    refine WR.val rfl (by simp only [push_cast, tbZ_ty, Nat.reduceEqDiff, ↓reduceIte]; exact ld24 s5 _ k hv g5t) ?_
    refine WR.call rfl (by simp only [push_cast, tbZ_ty, Nat.reduceEqDiff, ↓reduceIte]; rfl) (CP.rel (R := RMay) (by rfl) (v := .bool (mayV k l)) (s' := s5) ⟨k, hv, l, rfl, hH5, hl, rfl, rfl⟩) ?_
    rintro vm sm hRm
    obtain ⟨hvm, hsm⟩ := RMay_uniq hRm hH5
    subst hsm
    rw [hvm, mayV_true hm]
    clear hRm hvm vm
    refine WR.val rfl (by simp only [push_cast, tbZ_ty, Nat.reduceEqDiff, ↓reduceIte]; rfl) (WR.nil (W.seq (W.seq (W.region ?_))))
    iterate 3 refine WR.val rfl (by simp only [push_cast, tbZ_ty, Nat.reduceEqDiff, ↓reduceIte]; rfl) ?_
    refine WR.valG (d := 28) (b := false) rfl (by rfl) (by simp only [push_cast, tbZ_ty, Nat.reduceEqDiff, ↓reduceIte] <;> rfl) rfl (by simp only [push_cast, tbZ_ty, Nat.reduceEqDiff, ↓reduceIte]; rfl) ?_
    refine WR.valG (d := 28) (b := false) rfl (by rfl) (by simp only [push_cast, tbZ_ty, Nat.reduceEqDiff, ↓reduceIte] <;> rfl) rfl (by simp only [push_cast, tbZ_ty, Nat.reduceEqDiff, ↓reduceIte]; rfl) ?_
    refine WR.valG (d := 28) (b := false) rfl (by rfl) (by simp only [push_cast, tbZ_ty, Nat.reduceEqDiff, ↓reduceIte] <;> rfl) rfl (by simp only [push_cast, tbZ_ty, Nat.reduceEqDiff, ↓reduceIte]; rfl) ?_
    refine WR.valG (d := 28) (b := false) rfl (by rfl) (by simp only [push_cast, tbZ_ty, Nat.reduceEqDiff, ↓reduceIte] <;> rfl) rfl (by simp only [push_cast, tbZ_ty, Nat.reduceEqDiff, ↓reduceIte]; rfl) ?_
    refine WR.valG (d := 32) (b := true) rfl (by rfl) (by simp only [push_cast, tbZ_ty, Nat.reduceEqDiff, ↓reduceIte] <;> rfl) rfl (by simp only [push_cast, tbZ_ty, Nat.reduceEqDiff, ↓reduceIte]; rfl) ?_
    refine WR.valG (d := 32) (b := true) rfl (by rfl) (by simp only [push_cast, tbZ_ty, Nat.reduceEqDiff, ↓reduceIte] <;> rfl) rfl (by simp only [push_cast, tbZ_ty, Nat.reduceEqDiff, ↓reduceIte]; rfl) ?_
    refine WR.valG (d := 28) (b := false) rfl (by rfl) (by simp only [push_cast, tbZ_ty, Nat.reduceEqDiff, ↓reduceIte, hge] <;> rfl) rfl (by simp only [push_cast, tbZ_ty, Nat.reduceEqDiff, ↓reduceIte, hge]; rfl) ?_
    refine WR.valG (d := 28) (b := false) rfl (by rfl) (by simp only [push_cast, tbZ_ty, Nat.reduceEqDiff, ↓reduceIte, hge] <;> rfl) rfl (by simp only [push_cast, tbZ_ty, Nat.reduceEqDiff, ↓reduceIte, hge]; rfl) ?_
    refine WR.val rfl (by simp only [push_cast, tbZ_ty, Nat.reduceEqDiff, ↓reduceIte]; rfl) ?_
    refine WR.nil (W.cond (b := false) (by simp only [push_cast, tbZ_ty, Nat.reduceEqDiff, ↓reduceIte, hge] <;> rfl) (fun h => by cases h) (fun _ => W.skip ?_))
    refine W.seq (W.seq (W.region ?_))
    iterate 2 refine WR.val rfl (by simp only [push_cast, tbZ_ty, Nat.reduceEqDiff, ↓reduceIte]; rfl) ?_
    refine WR.nil (W.cond (b := false) (by simp only [push_cast, tbZ_ty, Nat.reduceEqDiff, ↓reduceIte] <;> rfl) (fun h => by cases h) (fun _ => W.skip ?_))
    refine W.seq (W.region ?_)
    iterate 3 refine WR.val rfl (by simp only [push_cast, tbZ_ty, Nat.reduceEqDiff, ↓reduceIte]; rfl) ?_
    refine WR.valG (d := 45) (b := true) rfl (by rfl) (by simp only [push_cast, tbZ_ty, Nat.reduceEqDiff, ↓reduceIte, hge] <;> rfl) rfl (by simp only [push_cast, tbZ_ty, Nat.reduceEqDiff, ↓reduceIte, hge]; rfl) ?_
    refine WR.valG (d := 45) (b := true) rfl (by rfl) (by simp only [push_cast, tbZ_ty, Nat.reduceEqDiff, ↓reduceIte, hge] <;> rfl) rfl (by simp only [push_cast, tbZ_ty, Nat.reduceEqDiff, ↓reduceIte, hge]; rfl) ?_
    refine WR.val rfl (by simp only [push_cast, tbZ_ty, Nat.reduceEqDiff, ↓reduceIte, hge]; rfl) ?_
    refine WR.val rfl (by simp only [push_cast, tbZ_ty, Nat.reduceEqDiff, ↓reduceIte]; rfl) ?_
    refine WR.valG (d := 49) (b := true) rfl (by rfl) (by simp only [push_cast, tbZ_ty, Nat.reduceEqDiff, ↓reduceIte, hge] <;> rfl) rfl (by simp only [push_cast, tbZ_ty, Nat.reduceEqDiff, ↓reduceIte, hge]; rfl) ?_
    refine WR.callG (d := 49) (b := true) rfl (by rfl) (by simp only [push_cast, tbZ_ty, Nat.reduceEqDiff, ↓reduceIte, hge] <;> rfl) rfl (by simp only [push_cast, tbZ_ty, Nat.reduceEqDiff, ↓reduceIte]; rfl) (CP.rel (R := RTp) (by rfl) hTp) ?_
    rintro _ s5 ⟨rfl, rfl, _⟩
    refine WR.valG (d := 49) (b := true) rfl (by rfl) (by simp only [push_cast, tbZ_ty, Nat.reduceEqDiff, ↓reduceIte, hge] <;> rfl) rfl (by simp only [push_cast, tbZ_ty, Nat.reduceEqDiff, ↓reduceIte, hge]; rfl) ?_
    refine WR.valG (d := 49) (b := true) rfl (by rfl) (by simp only [push_cast, tbZ_ty, Nat.reduceEqDiff, ↓reduceIte, hge] <;> rfl) rfl (by simp only [push_cast, tbZ_ty, Nat.reduceEqDiff, ↓reduceIte, hge]; rfl) ?_
    iterate 2 refine WR.val rfl (by simp only [push_cast, tbZ_ty, Nat.reduceEqDiff, ↓reduceIte, hge]; rfl) ?_
    refine WR.passG (d := 55) (b := true) rfl (by rfl) (by simp only [push_cast, tbZ_ty, Nat.reduceEqDiff, ↓reduceIte, hge] <;> rfl) rfl ?_
    refine WR.passG (d := 55) (b := true) rfl (by rfl) (by simp only [push_cast, tbZ_ty, Nat.reduceEqDiff, ↓reduceIte, hge] <;> rfl) rfl ?_
    refine WR.passG (d := 55) (b := true) rfl (by rfl) (by simp only [push_cast, tbZ_ty, Nat.reduceEqDiff, ↓reduceIte, hge] <;> rfl) rfl ?_
    refine WR.passU (d := 58) rfl (by rfl) (by simp only [push_cast, tbZ_ty, Nat.reduceEqDiff, ↓reduceIte] <;> rfl) ?_
    refine WR.passU (d := 58) rfl (by rfl) (by simp only [push_cast, tbZ_ty, Nat.reduceEqDiff, ↓reduceIte] <;> rfl) ?_
    refine WR.passU (d := 58) rfl (by rfl) (by simp only [push_cast, tbZ_ty, Nat.reduceEqDiff, ↓reduceIte] <;> rfl) ?_
    refine WR.passG (d := 55) (b := true) rfl (by rfl) (by simp only [push_cast, tbZ_ty, Nat.reduceEqDiff, ↓reduceIte, hge] <;> rfl) rfl ?_
    iterate 2 refine WR.val rfl (by simp only [push_cast, tbZ_ty, Nat.reduceEqDiff, ↓reduceIte]; rfl) ?_
    refine WR.nil (W.ret ⟨.inr rfl, rfl, [.bool true], ?_, rfl, hF5.keep hok⟩)
    rw [show Tryz.f3.results.toList = [.tmp 4] from rfl, res1]
    simp only [push_cast, tbZ_ty, Nat.reduceEqDiff, ↓reduceIte] <;> rfl
end Go.Proofs.Ae
namespace Go.Proofs.Ae
open Go.Proofs
open Go Go.ChangeShapes Go.WideShapes Go.RowKit
theorem ins_C (s : St) (hG : Gl s) (k : ByteArray) (hv : Value) (l : List Int) (hH : HV s hv l) (hl : l.length < 9223372036854775808) (hbb : ∀ bb oo n' cc, hv = .slice (some ⟨bb, oo, none⟩) n' cc → bb < s.next) (h7 : 7 < s.next) (sec : Int) :
    CSem Tryz.prog tbZ 3 [.agg #[.string k, hv], .int .i64 sec] s (.bool true) s := by
  refine CSem.ofOk (is_enters 3 Tryz.func3 (by kernel_rfl) (by kernel_rfl)) fun hok => ?_
  obtain ⟨v, s1, ⟨m, hr⟩, rfl, hF⟩ := ins_Z (bare s) hok hG k hv l hH.bare hl hbb h7 sec
  refine CSem.forgetAll (run_ok tbZ_ok tbZ_nat hr) (by simp [inD]) fun i hi o ho => ?_
  rcases hF.mods i hi with h | h | h
  · cases h
  · exact h.elim
  · have := hok i (hdom_of ho)
    have : s.next ≤ i := h
    omega
noncomputable def sA (c : List Value) : St := s0.alloc (.cells c .ro)
theorem s0_next : s0.next = 8 := rfl
theorem s0_cases {i : Nat} {o : AObj} (h : s0.get i = some o) : (i = 0 ∧ o = .cells gErr .ro) ∨ (i = 1 ∧ o = .cells g1 .ro) ∨ (i = 2 ∧ o = .cells g2 .ro) ∨ (i = 3 ∧ o = .cells g3 .ro) ∨ (i = 4 ∧ o = .cells g4 .ro) ∨ (i = 6 ∧ o = .cells g6 .ro) ∨ (i = 7 ∧ o = .cells [] .ro) := by
  rw [s0_lit] at h
  rcases lit_get h with ⟨j, h1, h2⟩ | ⟨h1, _⟩
  · match j, h1, h2 with
    | 0, h1, h2 => cases h1; cases h2; simp
    | 1, h1, h2 => cases h1; cases h2; simp
    | 2, h1, h2 => cases h1; cases h2; simp
    | 3, h1, h2 => cases h1; cases h2; simp
    | 4, h1, h2 => cases h1; cases h2; simp
    | 5, h1, h2 => cases h1; cases h2; simp
    | 6, h1, h2 => cases h1; cases h2; simp
    | n + 7, h1, h2 => simp [s0I] at h1
  · cases h1
theorem sA_8 (c : List Value) : (sA c).get 8 = some (.cells c .ro) := St.get_alloc_self s0 _
theorem sA_ne (c : List Value) {i : Nat} (h : i ≠ 8) : (sA c).get i = s0.get i := St.get_alloc_ne s0 i _ h
theorem sA_next (c : List Value) : (sA c).next = 9 := rfl
theorem sA_okk (c : List Value) : (sA c).Ok := fun i hi => by
  rw [sA_next]
  by_cases h : i = 8
  · omega
  · unfold hdom at hi
    rw [sA_ne c h] at hi
    have := s0_part.ok i hi
    rw [s0_next] at this
    omega
theorem sA_Gl (c : List Value) : Gl (sA c) := fun i o h => by
  have : i < 8 := s0_part.ok i (hdom_of h)
  rw [sA_ne c (by omega), h]
def rowAt (W : World) (b : Nat) (c : List Value) : Prop := ∀ j v, c[j]? = some v → W.cell? ⟨b, j, none⟩ = some v
structure GlW (W : World) : Prop where
  we : W.cell? ⟨0, 0, none⟩ = some (.iface 182 (.agg #[.pointer (some ⟨7, 30, none⟩)]))
  w1 : rowAt W 1 g1
  w2 : rowAt W 2 g2
  w3 : rowAt W 3 g3
  w4 : rowAt W 4 g4
  w6 : rowAt W 6 g6
def ioA (L : Loc) : Io := fun i => if i = 8 then L else ⟨i, 0, 0⟩
theorem ioA_8 (L : Loc) : ioA L 8 = L := by simp [ioA]
theorem ioA_ne (L : Loc) {i : Nat} (h : i ≠ 8) : ioA L i = ⟨i, 0, 0⟩ := by simp [ioA, h]
def isU (v : Value) : Bool := match v with
  | .int .u32 _ => true
  | _ => false
theorem isU_in {c : List Value} (h : c.all isU = true) : ∀ v ∈ c, inD (fun _ _ => False) v := fun v hv => by
  have := List.all_eq_true.1 h v hv
  unfold isU at this
  split at this
  · simp [inD]
  · cases this
theorem ro_ok {W : World} {ι : Io} {b : Nat} {c : List Value} (hc : ∀ v ∈ c, inD (fun _ _ => False) v) (h : rowAt W b c) (tb : Tb) : ObjOk tb ι W ⟨b, 0, 0⟩ (.cells c .ro) := fun j v hj => by
  show W.cell? ⟨b, 0 + j, none⟩ = _
  rw [conc_zero ι (hc v (List.mem_of_getElem? hj)), Nat.zero_add]
  exact h j v hj
theorem sA_cases {c : List Value} {i : Nat} {o : AObj} (h : (sA c).get i = some o) : (i = 8 ∧ o = .cells c .ro) ∨ (i ≠ 8 ∧ s0.get i = some o) := by
  by_cases e : i = 8
  · subst e; rw [sA_8] at h; cases h; exact .inl ⟨rfl, rfl⟩
  · rw [sA_ne c e] at h; exact .inr ⟨e, h⟩
theorem sA_ro {c : List Value} {i : Nat} {o : AObj} (h : (sA c).get i = some o) : o.writable = false := by
  rcases sA_cases h with ⟨_, rfl⟩ | ⟨_, h⟩
  · rfl
  · exact s0_ro i o h
theorem g1U : g1.all isU = true := by kernel_rfl
theorem g2U : g2.all isU = true := by kernel_rfl
theorem g3U : g3.all isU = true := by kernel_rfl
theorem g4U : g4.all isU = true := by kernel_rfl
theorem g6U : g6.all isU = true := by kernel_rfl
theorem goodA {W : World} (h : GlW W) (L : Loc) (c : List Value) (hc : ∀ v ∈ c, inD (fun _ _ => False) v) (hL : ∀ j v, c[j]? = some v → W.cell? ⟨L.block, L.off + j, none⟩ = some v) : Good tbZ (ioA L) (sA c).get W where
  obj id o ho := by
    rcases sA_cases ho with ⟨rfl, rfl⟩ | ⟨hn, ho⟩
    · rw [ioA_8]
      intro j v hj
      rw [conc_zero _ (hc v (List.mem_of_getElem? hj))]
      exact hL j v hj
    · rw [ioA_ne L hn]
      rcases s0_cases ho with ⟨rfl, rfl⟩ | ⟨rfl, rfl⟩ | ⟨rfl, rfl⟩ | ⟨rfl, rfl⟩ | ⟨rfl, rfl⟩ | ⟨rfl, rfl⟩ | ⟨rfl, rfl⟩
      · intro j v hj
        match j, hj with
        | 0, hj =>
          cases hj
          show W.cell? ⟨0, 0, none⟩ = _
          rw [h.we]
          simp only [conc, addrC, ioA, List.map_toArray, List.map_cons, List.map_nil]
          rfl
        | n + 1, hj => simp [gErr] at hj
      · exact ro_ok (isU_in g1U) h.w1 _
      · exact ro_ok (isU_in g2U) h.w2 _
      · exact ro_ok (isU_in g3U) h.w3 _
      · exact ro_ok (isU_in g4U) h.w4 _
      · exact ro_ok (isU_in g6U) h.w6 _
      · intro j v hj; simp at hj
  apart id o id' o' h1 h2 hw _ _ := by rw [sA_ro h1] at hw; cases hw
  closed id o ho := by
    rcases sA_cases ho with ⟨rfl, rfl⟩ | ⟨hn, ho⟩
    · exact fun v hv => inD_False (hc v hv)
    · have h7 : hdom (sA c).get 7 := by
        refine hdom_of (o := .cells [] .ro) ?_
        exact sA_Gl c _ _ (by kernel_rfl)
      rcases s0_cases ho with ⟨rfl, rfl⟩ | ⟨rfl, rfl⟩ | ⟨rfl, rfl⟩ | ⟨rfl, rfl⟩ | ⟨rfl, rfl⟩ | ⟨rfl, rfl⟩ | ⟨rfl, rfl⟩
      · intro v hv
        simp only [gErr, List.mem_cons, List.not_mem_nil, or_false] at hv
        subst hv
        simp only [inD]
        intro v hv
        simp only [List.mem_toArray, List.mem_cons, List.not_mem_nil, or_false] at hv
        subst hv
        simp only [inD]
        exact ⟨h7, Nat.zero_le _⟩
      · exact fun v hv => inD_False (isU_in g1U v hv)
      · exact fun v hv => inD_False (isU_in g2U v hv)
      · exact fun v hv => inD_False (isU_in g3U v hv)
      · exact fun v hv => inD_False (isU_in g4U v hv)
      · exact fun v hv => inD_False (isU_in g6U v hv)
      · exact fun v hv => by cases hv
  glob i hi := by
    have hm := glF_mem hi
    have hne : i ≠ 8 := by rintro rfl; simp at hm
    refine ⟨?_, by rw [ioA_ne L hne], by rw [ioA_ne L hne]⟩
    unfold hdom
    rw [sA_ne c hne]
    exact s0_part.glob i hi
theorem hubs_of {W : World} {cs : List Value} (hcs : cs = [.slice none 0 0] ∨ ∃ (a : Addr) (len cap : Nat) (zs : List Int), cs = [.slice (some a) len cap] ∧ len ≤ cap ∧ cap ≤ maxLen ∧ zs.length = cap ∧ ∀ i, i < zs.length → W.cell? (a.add i) = some (.int .i64 (zs.getD i 0))) :
    ∃ (L : Loc) (c : List Value) (hv : Value) (l : List Int), cs = [conc (ioA L) hv] ∧ (∀ v ∈ c, inD (fun _ _ => False) v) ∧ (∀ j v, c[j]? = some v → W.cell? ⟨L.block, L.off + j, none⟩ = some v) ∧ HV (sA c) hv l ∧ l.length < 9223372036854775808 ∧
      (∀ bb oo n' cc, hv = .slice (some ⟨bb, oo, none⟩) n' cc → bb < 9) ∧ inD (roomy (ioA L) (sA c).get) hv := by
  have hmax : maxLen < 9223372036854775808 := by decide
  rcases hcs with rfl | ⟨a, len, cap, zs, rfl, hlc, hcm, hzl, hcell⟩
  · refine ⟨⟨0, 0, 0⟩, [], .slice none 0 0, [], by simp only [conc], fun v hv => ?_, fun j v hj => ?_, HV.empty _ _, by decide, fun _ _ _ _ e => (nomatch e), ?_⟩
    · cases hv
    · simp at hj
    · simp only [inD]
  · have hcap : cap < cap0 := Nat.lt_of_le_of_lt hcm (Nat.lt_trans hmax (by decide))
    have hcc : ∀ a0, capC (ioA ⟨a.block, a.off, 0⟩) a0 cap = cap := fun a0 => by unfold capC; rw [if_pos hcap]
    have hnr : ∀ a0 n, needR a0 n cap = 0 := fun a0 n => by unfold needR; rw [if_pos hcap]
    have hcon : ∀ n, (.slice (some a) n cap : Value) = conc (ioA ⟨a.block, a.off, 0⟩) (.slice (some ⟨8, 0, a.spot⟩) n cap) := fun n => by
      simp only [conc, hcc, addrC, ioA_8, Nat.zero_add]
    by_cases h0 : len = 0
    · subst h0
      refine ⟨⟨a.block, a.off, 0⟩, [], .slice (some ⟨8, 0, a.spot⟩) 0 cap, [], by rw [← hcon], fun v hv => ?_, fun j v hj => ?_, HV.empty _ _, by decide, fun bb oo n' cc e => ?_, ?_⟩
      · cases hv
      · simp at hj
      · simp only [Value.slice.injEq, Option.some.injEq, Addr.mk.injEq] at e
        omega
      · simp only [inD, hnr]
        exact ⟨hdom_of (sA_8 _), Nat.zero_le _⟩
    · obtain ⟨b, off, rfl, hc⟩ := ints_at hcell (by omega)
      have hlen : (zs.take len).length = len := by rw [List.length_take]; omega
      refine ⟨⟨b, off, 0⟩, zs.map (.int .i64 ·), .slice (some ⟨8, 0, none⟩) len cap, zs.take len, by rw [← hcon], fun v hv => ?_, fun j v hj => ?_, ?_, by omega, fun bb oo n' cc e => ?_, ?_⟩
      · obtain ⟨n, _, rfl⟩ := List.mem_map.1 hv
        simp [inD]
      · rw [List.getElem?_map] at hj
        cases hz : zs[j]? with
        | none => rw [hz] at hj; cases hj
        | some n =>
          rw [hz] at hj
          cases hj
          have hjl : j < zs.length := (List.getElem?_eq_some_iff.1 hz).1
          show W.cell? ⟨b, off + j, none⟩ = _
          rw [hc j hjl, List.getD_eq_getElem?_getD, hz]
          rfl
      · have := HV.at (s := sA (zs.map (.int .i64 ·))) 8 0 cap (zs.take len) (by intro e; rw [e] at hlen; simp at hlen; omega) (.inr ⟨by omega, hcap⟩) ⟨_, _, sA_8 _, fun p hp => by
          have hpl : p < len := by omega
          rw [Nat.zero_add, List.getElem?_map, List.getElem?_eq_getElem (by omega)]
          simp only [Option.map_some, atI, List.getD_eq_getElem?_getD, List.getElem?_take_of_lt hpl]
          rw [List.getElem?_eq_getElem (by omega)]
          rfl⟩
        rw [hlen] at this
        exact this
      · simp only [Value.slice.injEq, Option.some.injEq, Addr.mk.injEq] at e
        omega
      · simp only [inD, hnr]
        exact ⟨hdom_of (sA_8 _), Nat.zero_le _⟩
end Go.Proofs.Ae
namespace Go.Proofs.Ae
open Go.Proofs
open Go Go.ChangeShapes Go.WideShapes Go.RowKit
open Go.Proofs.YtmchinghfbdlkaaGreatDoor
def litU (v : Value) : DataW Unit := match v with
  | .int .u32 n => .lit (.int .u32 n)
  | _ => .nil
theorem one11 : Tryz.prog.cellsOf 267 = 1 := by kernel_rfl
theorem rowAt_of {P : Program} {W : World} {name : String} {g t e n fuel : Nat} {cs : Array Value} {c : List Value} {p : List MemPlace} {enc : TypeId × Value → Unit} {sp : Nat → Bool}
    (hg : P.globalNamed name = some g) (ht : P.underlying t = some (.array n e)) (he : P.underlying e = some (.int .u32)) (hc : P.cellsOf e = 1) (hv : W.var? P name = some cs) (hu : c.all isU = true)
    (hd : DataW.trod enc P W 0 sp false fuel t cs.toList = some (.agg (c.map litU), p)) : rowAt W g c := by
  intro j v hj
  obtain ⟨xs, m, rfl, hx, _, hxl, hel⟩ := DataW.trod_array ht hd
  simp only [Prod.mk.injEq, DataW.agg.injEq] at hx
  obtain ⟨hx1, _⟩ := hx
  have hlen : c.length = n := by have := congrArg List.length hx1; simpa [hxl] using this
  have hjl : j < c.length := (List.getElem?_eq_some_iff.1 hj).1
  have h1 := hel j (by omega)
  have h2 : (xs.map (·.1))[j]? = some (litU v) := by rw [← hx1, List.getElem?_map, hj]; rfl
  rw [List.getElem?_map] at h2
  cases hxj : xs[j]? with
  | none => rw [hxj] at h2; cases h2
  | some y =>
    rw [hxj] at h1 h2
    simp only [Option.map_some, Option.some.injEq] at h2
    obtain ⟨k, e1, e2, _⟩ := DataW.trod_int he h1
    have hk := List.all_eq_true.1 hu v (List.mem_of_getElem? hj)
    unfold isU at hk
    split at hk
    · rename_i q
      rw [e2] at h2
      simp only [litU, DataW.lit.injEq, Lit.int.injEq, true_and] at h2
      subst h2
      rw [World.var?_cell hg hv j]
      rw [hc, Nat.mul_one] at e1
      have : (cs.toList.drop j).head? = some (.int .u32 k) := by
        cases hd : cs.toList.drop j with
        | nil => rw [hd] at e1; simp at e1
        | cons a r => rw [hd] at e1; simp only [List.take_succ_cons, List.take_zero, List.cons.injEq, and_true] at e1; rw [e1]; rfl
      rw [List.head?_drop] at this
      rw [← Array.getElem?_toList]
      exact this
    · cases hk
abbrev seatLaid : List (String × DataW Unit) := [("farebox/fareboxref03.first", Rows.laid_farebox_fareboxref03_first), ("farebox/fareboxref03.k", Rows.laid_farebox_fareboxref03_k), ("errors.errorType", Rows.laid_errors_errorType), ("farebox/hash.start", Rows.laid_farebox_hash_start), ("farebox/hash.rounds", Rows.laid_farebox_hash_rounds), ("farebox/sum.nibble", Rows.laid_farebox_sum_nibble)]
theorem gn0 : Tryz.prog.globalNamed "errors.errorType" = some 0 := by kernel_rfl
theorem gn1 : Tryz.prog.globalNamed "farebox/fareboxref03.first" = some 1 := by kernel_rfl
theorem gn2 : Tryz.prog.globalNamed "farebox/hash.start" = some 2 := by kernel_rfl
theorem gn3 : Tryz.prog.globalNamed "farebox/fareboxref03.k" = some 3 := by kernel_rfl
theorem gn4 : Tryz.prog.globalNamed "farebox/hash.rounds" = some 4 := by kernel_rfl
theorem gn6 : Tryz.prog.globalNamed "farebox/sum.nibble" = some 6 := by kernel_rfl
theorem gt1 : (Tryz.prog.globals[1]?).map (·.type) = some 268 := by kernel_rfl
theorem gt2 : (Tryz.prog.globals[2]?).map (·.type) = some 287 := by kernel_rfl
theorem gt3 : (Tryz.prog.globals[3]?).map (·.type) = some 294 := by kernel_rfl
theorem gt4 : (Tryz.prog.globals[4]?).map (·.type) = some 294 := by kernel_rfl
theorem gt6 : (Tryz.prog.globals[6]?).map (·.type) = some 299 := by kernel_rfl
theorem rtOne : (Tryz.prog.cutTypes.find? (·.1 == "internal/reflectlite.rtype")).map (·.2) = some 182 := by kernel_rfl
theorem rowOne : ((List.range Tryz.prog.types.size).filter fun t => Tryz.prog.rowNamed t [101, 114, 114, 111, 114]) = [30] := by kernel_rfl
theorem thOne : typeHandle Tryz.prog 30 = .pointer (some ⟨7, 30, none⟩) := by kernel_rfl
theorem litD1 : (Rows.laid_farebox_fareboxref03_first : DataW Unit) = .agg (g1.map litU) := by kernel_rfl
theorem litD2 : (Rows.laid_farebox_hash_start : DataW Unit) = .agg (g2.map litU) := by kernel_rfl
theorem litD3 : (Rows.laid_farebox_fareboxref03_k : DataW Unit) = .agg (g3.map litU) := by kernel_rfl
theorem litD4 : (Rows.laid_farebox_hash_rounds : DataW Unit) = .agg (g4.map litU) := by kernel_rfl
theorem litD6 : (Rows.laid_farebox_sum_nibble : DataW Unit) = .agg (g6.map litU) := by kernel_rfl
theorem laidNo : (seatLaid.filter fun x => x.2.handleName?.isNone) = [("farebox/fareboxref03.first", .agg (g1.map litU)), ("farebox/fareboxref03.k", .agg (g3.map litU)), ("farebox/hash.start", .agg (g2.map litU)), ("farebox/hash.rounds", .agg (g4.map litU)), ("farebox/sum.nibble", .agg (g6.map litU))] := by
  rw [← litD1, ← litD2, ← litD3, ← litD4, ← litD6]; kernel_rfl
theorem laidYes : (seatLaid.filter fun x => x.2.handleName?.isSome) = [("errors.errorType", Rows.laid_errors_errorType)] := by kernel_rfl
theorem hnOne : (Rows.laid_errors_errorType : DataW Unit).handleName? = some [101, 114, 114, 111, 114] := by kernel_rfl
theorem hfOne : (Rows.laid_errors_errorType : DataW Unit).funcsIn? = none := by kernel_rfl
set_option maxRecDepth 100000 in
theorem glW_of {W : World} (h : laidMetH Tryz.prog seatLaid W) : GlW W := by
  obtain ⟨hm, hh⟩ := laidMetH_iff.1 h
  rw [laidNo] at hm
  rw [laidYes] at hh
  obtain ⟨ps, ⟨a1, t1, c1, f1, p1, q1, e11, e12, e13, e14, ⟨a3, t3, c3, f3, p3, q3, e31, e32, e33, e34, ⟨a2, t2, c2, f2, p2, q2, e21, e22, e23, e24, ⟨a4, t4, c4, f4, p4, q4, e41, e42, e43, e44, ⟨a6, t6, c6, f6, p6, q6, e61, e62, e63, e64, _, _⟩, _⟩, _⟩, _⟩, _⟩, _, _⟩ := hm
  obtain rfl := Option.some.inj (gn1.symm.trans e11)
  obtain rfl := Option.some.inj (gn2.symm.trans e21)
  obtain rfl := Option.some.inj (gn3.symm.trans e31)
  obtain rfl := Option.some.inj (gn4.symm.trans e41)
  obtain rfl := Option.some.inj (gn6.symm.trans e61)
  obtain rfl := Option.some.inj (gt1.symm.trans e12)
  obtain rfl := Option.some.inj (gt2.symm.trans e22)
  obtain rfl := Option.some.inj (gt3.symm.trans e32)
  obtain rfl := Option.some.inj (gt4.symm.trans e42)
  obtain rfl := Option.some.inj (gt6.symm.trans e62)
  have hx := hh _ (List.mem_singleton.2 rfl)
  rw [hfOne] at hx
  obtain ⟨name, u, ty, x1, x2, x3, x4, x5⟩ := hx
  rw [hnOne] at x1
  obtain rfl := Option.some.inj x1
  obtain rfl := Option.some.inj (rtOne.symm.trans x2)
  have hmm : ty ∈ (List.range Tryz.prog.types.size).filter fun t => Tryz.prog.rowNamed t [101, 114, 114, 111, 114] := List.mem_filter.2 ⟨List.mem_range.2 x3, x4⟩
  rw [rowOne] at hmm
  obtain rfl := List.mem_singleton.1 hmm
  rw [thOne] at x5
  exact ⟨by simpa using World.var?_cell gn0 x5 0, rowAt_of gn1 Tryz.underlying268 Tryz.underlying267 one11 e13 g1U e14, rowAt_of gn2 Tryz.underlying287 Tryz.underlying267 one11 e23 g2U e24,
    rowAt_of gn3 Tryz.underlying294 Tryz.underlying267 one11 e33 g3U e34, rowAt_of gn4 Tryz.underlying294 Tryz.underlying267 one11 e43 g4U e44, rowAt_of gn6 Tryz.underlying299 Tryz.underlying267 one11 e63 g6U e64⟩
end Go.Proofs.Ae
namespace Go.Proofs.Ae
open Go.Proofs
open Go Go.ChangeShapes Go.WideShapes Go.ChangeAt Go.RowKit
open Go.Proofs.YtmchinghfbdlkaaGreatDoor
theorem own : ownKnob Tryz.prog.godebug = none := by kernel_rfl
theorem laidOut : laidOutB Tryz.prog = true := by kernel_rfl
theorem door_met (os : Os) (args : Array Value) : laidMetH Tryz.prog seatLaid ((World.doorLaid Tryz.prog 65 os).forCall (fun _ _ => 0) ⟨#[], args, []⟩).memory :=
  laidMetH_of_parts3 (fuel := 8) (laidMet_of_run' 8 (by kernel_rfl) (by kernel_rfl)) (by kernel_rfl) (by kernel_rfl)
set_option maxRecDepth 100000 in
theorem open24 {H : Type} {enc : TypeId × Value → H} {W : World} {base b0 : Nat} {v : Value} {d : DataW H} {p : List MemPlace} (hval : Value.okWide Tryz.prog W .any base 24 v) (h : DataW.Trod enc Tryz.prog W 0 (fun _ => true) true 24 v d p) :
    ∃ (k : ByteArray) (x : Value), v = .agg #[.string k, x] ∧ ([x] = [.slice none 0 0] ∨ ∃ (a : Addr) (len cap : Nat) (zs : List Int), [x] = [.slice (some a) len cap] ∧ len ≤ cap ∧ cap ≤ maxLen ∧ zs.length = cap ∧ ∀ i, i < zs.length → W.cell? (a.add i) = some (.int .i64 (zs.getD i 0))) := by
  obtain ⟨fuel, h⟩ := h
  have hv : ∃ cs : Array Value, v = .agg cs := by
    unfold Value.okWide at hval
    rw [Tryz.underlying24] at hval
    obtain ⟨cs, rfl, _⟩ := hval
    exact ⟨cs, rfl⟩
  obtain ⟨cs, rfl⟩ := hv
  obtain ⟨xs, m, rfl, _, hlen, hxl, hel⟩ := DataW.trod_struct Tryz.underlying24 h
  replace hlen : cs.toList.length = Tryz.prog.cellsOf 24 := hlen
  have c24 : Tryz.prog.cellsOf 24 = 2 := by kernel_rfl
  have c9 : Tryz.prog.cellsOf 9 = 1 := by kernel_rfl
  have c22 : Tryz.prog.cellsOf 22 = 1 := by kernel_rfl
  have c3 : Tryz.prog.cellsOf 3 = 1 := by kernel_rfl
  rw [c24] at hlen
  obtain ⟨l⟩ := cs
  match l, hlen with
  | [x0, x1], _ =>
    match xs, hxl with
    | [y0, y1], _ =>
      have h0 : DataW.trod enc Tryz.prog W 0 (fun _ => true) true m 9 [x0] = some y0 := hel 0 _ rfl
      have h1 : DataW.trod enc Tryz.prog W 0 (fun _ => true) true m 22 [x1] = some y1 := hel 1 _ rfl
      obtain ⟨k, e0, _⟩ := DataW.trod_string Tryz.underlying9 h0
      simp only [List.cons.injEq, and_true] at e0
      subst e0
      refine ⟨k, x1, rfl, ?_⟩
      rcases open_ints Tryz.underlying22 Tryz.underlying3 c3 h1 with ⟨e, _⟩ | ⟨a, len, cap, zs, e, _, hl, hm, hz, _, hc, _⟩
      · exact .inl e
      · exact .inr ⟨a, len, cap, zs, e, hl, hm, by simpa using hz, hc⟩
set_option maxRecDepth 100000 in
theorem ins_lifted (os : Os) (started : os.Started) (H : Type) (enc : TypeId × Value → H) :
    ReturnsInHanded {} Tryz.checked os 3 .any (fun w args => (Rows.ingestSetupsSpec.pre enc Tryz.prog Tryz.f3 [] false w args ∧ laidMetH Tryz.prog seatLaid w) ∧ sizedMet enc Tryz.prog Tryz.f3 (OpenSpec.ofChange Rows.ingestSetupsSpec) false w args)
      (Rows.ingestSetupsSpec.post enc Tryz.prog Tryz.f3 false true false false) := by
  refine returnsInHanded_of_change_and (C := Tryz.checked) (X := fun w _ => laidMetH Tryz.prog seatLaid w) (fun _ _ _ hh h => h.of_heap hh) own started (by kernel_rfl) Tryz.func3
    (ChangeSpec.witness_shaped (enc := enc) (C := Tryz.checked) (os := os) (X := fun w _ => laidMetH Tryz.prog seatLaid w) false (World.doorLaid Tryz.prog 65 os) #[.agg #[.string ⟨#[]⟩, .slice none 0 0], .int .i64 0] 8 rfl (World.shaped_of_RefB (by kernel_rfl) (by kernel_rfl)) (by kernel_rfl) (by kernel_rfl) (by kernel_rfl) (door_met os _)) ?_
  intro W base args ds gs before hval0 hW _ _ hL _
  have hval : ∀ (j : Nat) t v, Tryz.f3.params[j]? = some t → args[j]? = some v → Value.okWide Tryz.prog W .any base t v := hval0
  have hW' := hW
  obtain ⟨p, q, hA0, hV, rfl, hfz, hnd⟩ := hW
  have hA : DataW.TrodAll enc Tryz.prog W 0 (fun _ => true) true Tryz.f3.params.toList args.toList ds p := hA0
  rw [Tryz.params3] at hA hval
  obtain ⟨v0, v1, d0, d1, p0, p1, rfl, rfl, rfl, h0, h1⟩ := trodAll_two hA
  obtain ⟨rfl, rfl⟩ := trodVars_none hV
  have k0 := h0
  have k1 := h1
  obtain ⟨k, x, rfl, hx⟩ := open24 (b0 := 0) (hval 0 24 v0 rfl rfl) h0
  obtain ⟨n, rfl, rfl, rfl, wn⟩ := open_int Tryz.underlying3 (hval 1 3 v1 rfl rfl) h1
  clear hA0 hval0
  simp only [List.append_nil] at hW'
  obtain ⟨L, c, hv, l, hcs, hcin, hcL, hH, hll, hbb, hin⟩ := hubs_of (W := W) hx
  simp only [List.cons.injEq, and_true] at hcs
  have hC := ins_C (sA c) (sA_Gl c) k hv l hH hll hbb (by rw [sA_next]; omega) n
  have hcall := hC.2.2 Fence.wide (ioA L) W (sA_okk c) (goodA (glW_of hL) L c hcin hcL) (fun x hx => by
    simp only [List.mem_cons, List.not_mem_nil, or_false] at hx
    rcases hx with rfl | rfl
    · simp only [inD]
      intro u hu
      simp only [List.mem_toArray, List.mem_cons, List.not_mem_nil, or_false] at hu
      rcases hu with rfl | rfl
      · simp only [inD]
      · exact hin
    · simp only [inD]) ⟨fun _ => trivial, rfl, fun _ => rfl, rfl⟩
  have hargs : ([.agg #[.string k, hv], .int .i64 n].map (conc (ioA L))).toArray = #[.agg #[.string k, x], .int .i64 n] := by
    simp only [List.map_cons, List.map_nil, conc, List.map_toArray, ← hcs]
  rw [hargs] at hcall
  refine (callsIn_wide.1 hcall).mono fun e W' ⟨ι', he, hE, _⟩ => ?_
  have hcb : conc ι' (.bool true) = .bool true := by simp only [conc]
  rw [hcb] at he
  subst he
  have hB : Below W.heap.size W W' := ⟨hE.os, hE.tape, hE.output, hE.size, fun b hb => hE.frame b hb (fun i hi => by cases hi)⟩
  have hlt : ∀ x ∈ p0, x.block < W.heap.size := fun x hx => by simpa using hW'.lt x (by simp [hx])
  have hlt1 : ∀ x ∈ ([] : List MemPlace), x.block < W.heap.size := fun x hx => by cases hx
  exact ⟨_, rfl, _, _, _, [], _, [], hW', trodAll_mk1 (shut_bool Tryz.underlying4 true), trodAll_mk2 (Below.trod laidOut (by kernel_rfl) (of_decide_eq_true (by kernel_rfl)) k0 hB hlt) (Below.trod laidOut (by kernel_rfl) (of_decide_eq_true (by kernel_rfl)) k1 hB hlt1), rfl, hB.frame _, fun h => by cases h⟩
end Go.Proofs.Ae
