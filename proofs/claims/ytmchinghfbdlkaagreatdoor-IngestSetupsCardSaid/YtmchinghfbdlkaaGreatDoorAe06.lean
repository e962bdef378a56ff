/- A part of the proof that the program's function answers true: lemmas (Wp to Seg2) on carrying the program out over names of memory objects. No condition. -/
import Derived.Test.YtmchinghfbdlkaaGreatDoorAe05
import Derived.IntWalk
set_option linter.unusedVariables false
set_option linter.unusedSimpArgs false
namespace Go.Proofs.Ae
variable {tb : Tb}
def W (tb : Tb) (c : Code) (a : AA) (s : St) (Q : AX → AA → St → Prop) : Prop := ∃ x a' s', X tb c a s x a' s' ∧ Q x a' s'
def WR (tb : Tb) (ops l : List Oper) (a : AA) (s : St) (Q : AA → St → Prop) : Prop := ∃ a' s', XR tb ops l a s a' s' ∧ Q a' s'
def CP (tb : Tb) (k : FuncId) (args : List Value) (s : St) (R : Value → St → Prop) : Prop := ∃ v s', C tb k args s v s' ∧ R v s'
def thenW (K : AA → St → Prop) (Q : AX → AA → St → Prop) : AX → AA → St → Prop
  | .normal, a, s => K a s
  | x, a, s => Q x a s
theorem W.mono {c : Code} {a : AA} {s : St} {Q Q' : AX → AA → St → Prop} (h : W tb c a s Q) (hq : ∀ x a s, Q x a s → Q' x a s) : W tb c a s Q' :=
  let ⟨x, a', s', h1, h2⟩ := h; ⟨x, a', s', h1, hq _ _ _ h2⟩
theorem W.skip {a : AA} {s : St} {Q : AX → AA → St → Prop} (h : Q .normal a s) : W tb .skip a s Q := ⟨_, _, _, X.skip, h⟩
theorem W.ret {a : AA} {s : St} {Q : AX → AA → St → Prop} (h : Q .ret a s) : W tb .ret a s Q := ⟨_, _, _, X.ret, h⟩
theorem W.exit {id : Nat} {a : AA} {s : St} {Q : AX → AA → St → Prop} (h : Q (.exit id) a s) : W tb (.exit id) a s Q := ⟨_, _, _, X.exit, h⟩
theorem W.region {id : Nat} {ops : Array Oper} {a : AA} {s : St} {Q : AX → AA → St → Prop} (h : WR tb ops.toList ops.toList a s (Q .normal)) : W tb (.region id ops false) a s Q :=
  let ⟨_, _, h1, h2⟩ := h; ⟨_, _, _, X.region h1, h2⟩
theorem W.seq {y z : Code} {a : AA} {s : St} {Q : AX → AA → St → Prop} (h : W tb y a s (thenW (fun a s => W tb z a s Q) Q)) : W tb (.seq y z) a s Q := by
  obtain ⟨x, a1, s1, h1, h2⟩ := h
  cases x with
  | normal =>
    obtain ⟨x, a', s', k1, k2⟩ := h2
    exact ⟨x, a', s', X.seq h1 k1, k2⟩
  | exit id => exact ⟨_, _, _, X.seq_out h1 (by simp), h2⟩
  | ret => exact ⟨_, _, _, X.seq_out h1 (by simp), h2⟩
theorem W.cond {o : Operand} {y z : Code} {a : AA} {s : St} {Q : AX → AA → St → Prop} {b : Bool} (hc : evO a.tm o = .bool b) (ht : b = true → W tb y a s Q) (hf : b = false → W tb z a s Q) : W tb (.cond o y z) a s Q := by
  cases b with
  | true => obtain ⟨x, a', s', h1, h2⟩ := ht rfl; exact ⟨x, a', s', X.cond_true hc h1, h2⟩
  | false => obtain ⟨x, a', s', h1, h2⟩ := hf rfl; exact ⟨x, a', s', X.cond_false hc h1, h2⟩
theorem W.block {id : Nat} {y : Code} {a : AA} {s : St} {Q : AX → AA → St → Prop} (h : W tb y a s (fun x => Q (outOf id x))) : W tb (.block id y) a s Q :=
  let ⟨x, a', s', h1, h2⟩ := h; ⟨_, _, _, X.block h1, h2⟩
theorem W.loop {y : Code} (I : Nat → AA → St → Prop) {Q : AX → AA → St → Prop} (round : ∀ m a s, I m a s → W tb y a s (thenW (fun a1 s1 => ∃ m', m' < m ∧ I m' a1 s1) Q)) : ∀ (m : Nat) (a : AA) (s : St), I m a s → W tb (.loop y) a s Q := by
  intro m
  induction m using Nat.strongRecOn with
  | _ m ih =>
    intro a s hI
    obtain ⟨x, a1, s1, h1, h2⟩ := round m a s hI
    cases x with
    | normal =>
      obtain ⟨m', hlt, hI'⟩ := h2
      obtain ⟨x, a', s', k1, k2⟩ := ih m' hlt a1 s1 hI'
      exact ⟨x, a', s', X.loop h1 k1, k2⟩
    | exit id => exact ⟨_, _, _, X.loop_out h1 (by simp), h2⟩
    | ret => exact ⟨_, _, _, X.loop_out h1 (by simp), h2⟩
theorem WR.nil {ops : List Oper} {a : AA} {s : St} {Q : AA → St → Prop} (h : Q a s) : WR tb ops [] a s Q := ⟨_, _, XR.nil, h⟩
theorem WR.val {ops l : List Oper} {o : Oper} {a : AA} {s s1 : St} {v : Value} {Q : AA → St → Prop} (hw : wantedA ops o.guard a.tm = true) (h : opA tb.ty s a.tm o.op = some (.val v, s1)) (k : WR tb ops l (a.put o.dst v) s1 Q) : WR tb ops (o :: l) a s Q :=
  let ⟨_, _, k1, k2⟩ := k; ⟨_, _, XR.val hw h k1, k2⟩
theorem WR.do {ops l : List Oper} {o : Oper} {a : AA} {s s1 : St} {Q : AA → St → Prop} (hw : wantedA ops o.guard a.tm = true) (h : opA tb.ty s a.tm o.op = some (.skip, s1)) (k : WR tb ops l (a.put o.dst undefA) s1 Q) : WR tb ops (o :: l) a s Q :=
  let ⟨_, _, k1, k2⟩ := k; ⟨_, _, XR.do hw h k1, k2⟩
theorem WR.call {ops l : List Oper} {o : Oper} {a : AA} {s s1 : St} {k : FuncId} {args : List Value} {R : Value → St → Prop} {Q : AA → St → Prop} (hw : wantedA ops o.guard a.tm = true) (h : opA tb.ty s a.tm o.op = some (.enter k args, s1)) (hc : CP tb k args s1 R)
    (kk : ∀ v s2, R v s2 → WR tb ops l (a.put o.dst v) s2 Q) : WR tb ops (o :: l) a s Q := by
  obtain ⟨v, s2, h1, h2⟩ := hc
  obtain ⟨_, _, k1, k2⟩ := kk v s2 h2
  exact ⟨_, _, XR.call hw h h1 k1, k2⟩
theorem WR.pass {ops l : List Oper} {o : Oper} {a : AA} {s : St} {Q : AA → St → Prop} (hw : wantedA ops o.guard a.tm = false) (k : WR tb ops l (a.put o.dst undefA) s Q) : WR tb ops (o :: l) a s Q :=
  let ⟨_, _, k1, k2⟩ := k; ⟨_, _, XR.pass hw k1, k2⟩
theorem CP.of {k : FuncId} {fn : Func} {c : Code} {args : List Value} {s : St} {R : Value → St → Prop} (hn : tb.nat k = none) (hf : tb.fn.get k = some fn) (hb : fn.body = some c) (hl : args.length ≤ fn.ntmps)
    (h : W tb c ⟨argsTr args 0 .nil, [], false, k⟩ (bare s) (fun x a1 s1 => (x = .normal ∨ x = .ret) ∧ a1.df = [] ∧ ∃ vs, resA tb.ty s1 a1.tm fn.results.toList = some vs ∧ R (tup vs) (keepMods s s1))) : CP tb k args s R := by
  obtain ⟨x, a1, s1, h1, hx, hd, vs, hr, hR⟩ := h
  exact ⟨_, _, C.of hn hf hb hl h1 hx hd hr, hR⟩
end Go.Proofs.Ae
namespace Go.Proofs.Ae
variable {tb : Tb}
def kid : Code → Nat → Code
  | .seq a _, 0 => a
  | .seq _ b, _ => b
  | .cond _ a _, 0 => a
  | .cond _ _ b, _ => b
  | .block _ b, _ => b
  | .loop b, _ => b
  | .rangeFunc _ _ a _, 0 => a
  | .rangeFunc _ _ _ b, _ => b
  | c, _ => c
def opsC : Code → Array Oper
  | .region _ ops _ => ops
  | _ => #[]
def opsAt (f : Func) (p : List Nat) : Array Oper := opsC (p.foldl kid (f.body.getD .skip))
theorem wanted_some {ops : List Oper} {j : Nat} {want b : Bool} {d : Nat} {tm : Tr Value} (h : (ops[j]?).bind (·.dst) = some d) (hb : tmA tm d = .bool b) : wantedA ops (some (j, want)) tm = (b == want) := by
  unfold wantedA
  cases hj : ops[j]? with
  | none => rw [hj] at h; cases h
  | some oj =>
    rw [hj] at h
    simp only [Option.bind_some] at h
    simp only [hj, h]
    rw [guardO_eq]
    rw [show Option.rec (motive := fun _ => Value) undefA (fun v => v) (tm.get d) = tmA tm d from rfl, hb]
    cases b <;> cases want <;> rfl
theorem addA_none (b o n : Nat) : addA ⟨b, o, none⟩ n = ⟨b, o + n, none⟩ := by cases n <;> rfl
theorem idxTo_in (s : St) (a : Addr) (i : Int) (n : Nat) (te : TI) (h0 : 0 ≤ i) (h : i < n) : idxTo s a i n (some te) = some (.val (.pointer (some (addA a (i.toNat * te.size)))), s) := by
  obtain ⟨k, rfl⟩ := Int.eq_ofNat_of_zero_le h0
  have hk : k < n := by omega
  change (bif Nat.ble (k + 1) n then some (AR.val (.pointer (some (addA a (k * te.size)))), s) else none) = _
  rw [Nat.ble_eq_true_of_le hk]; rfl
theorem indexAddr_slice (T : Tr TI) (s : St) (a : Addr) (n c : Nat) (k : IntKind) (i : Int) (ti : TI) (e : TypeId) (h : ti.d = .slice e) : indexAddrA T s (.slice (some a) n c) (.int k i) (some ti) = idxTo s a i n (T.get e) := by
  simp [indexAddrA, h]
theorem indexAddr_array (T : Tr TI) (s : St) (a : Addr) (n : Nat) (k : IntKind) (i : Int) (ti : TI) (e : TypeId) (h : ti.d = .array n e) : indexAddrA T s (.pointer (some a)) (.int k i) (some ti) = idxTo s a i n (T.get e) := by
  simp [indexAddrA, h]
def cell1 (off : Nat) : Option AObj → Option Value
  | some (.cells c _) => c[off]?
  | _ => none
theorem cell1_some (off : Nat) (c : List Value) (m : Mode) : cell1 off (some (.cells c m)) = c[off]? := rfl
theorem take_one (l : List Value) : oneO (takeX l 1) = l[0]? := by
  cases l with
  | nil => rfl
  | cons v l =>
    rw [show (1 : Nat) = 0 + 1 from rfl, takeX_succ, takeX_zero]; rfl
theorem load_one (ti : TI) (s : St) (b off : Nat) (h1 : isOther ti.d = false) (h2 : isAggT ti.d = false) : loadA s (.pointer (some ⟨b, off, none⟩)) (some ti) = valO s (cell1 off (s.get b)) := by
  simp only [loadA, loadT, h1, h2, cond_false, cellsAt]
  congr 1
  cases hg : s.get b with
  | none => rfl
  | some o =>
    cases o with
    | cells c m => simp only [cellsOf, cell1, take_one, dropX_eq, List.getElem?_drop, Nat.add_zero]
    | _ => rfl
theorem put_one : ∀ (c : List Value) (off : Nat) (v : Value), off < c.length → putX c off [v] = some (c.set off v)
  | [], off, v, h => by simp at h
  | x :: c, 0, v, _ => by
    rw [putX_zero_cons]
    cases c with
    | nil => simp [putX_nil_zero]
    | cons y c => rw [putX_zero_nil]; rfl
  | x :: c, off + 1, v, h => by
    rw [putX_succ, put_one c off v (by simpa using h)]; rfl
theorem store_one (ti : TI) (s : St) (b off : Nat) (v : Value) (c : List Value) (m : Mode) (h1 : ti.size = 1) (h2 : oneV v = true) (hg : s.get b = some (.cells c m)) (hm : m ≠ .ro) (ho : off < c.length) :
    storeA s (.pointer (some ⟨b, off, none⟩)) v (some ti) = some (.skip, s.upd b (.cells (c.set off v) m)) := by
  have hc : v.cells.toList = [v] := by cases v <;> first | rfl | (cases h2)
  simp only [storeA, hc, h1]
  have : Nat.beq [v].length 1 = true := rfl
  rw [this]
  simp only [cond_true, storeAt, hg]
  unfold storeO
  cases m with
  | ro => exact absurd rfl hm
  | exact =>
    have : allOne [v] = true := by simp [allOne, h2]
    simp only [this, cond_true, put_one c off v ho]; rfl
  | grow =>
    have : allOne [v] = true := by simp [allOne, h2]
    simp only [this, cond_true, put_one c off v ho]; rfl
attribute [push_cast] addA_none cell1_some
end Go.Proofs.Ae
namespace Go.Proofs.Ae
def TrAll {α : Type} (p : Nat → α → Prop) : Tr α → Nat → Nat → Prop
  | .nil, _, _ => True
  | .node v l r, A, B => (∀ x, v = some x → p B x) ∧ TrAll p l (2 * A) (A + B) ∧ TrAll p r (2 * A) (2 * A + B)
theorem TrAll.get {α : Type} {p : Nat → α → Prop} : ∀ {t : Tr α} {A B : Nat}, TrAll p t A B → ∀ n x, t.get n = some x → p (A * n + B) x
  | .nil, _, _, _, n, x, hx => by cases hx
  | .node v l r, A, B, h, n, x, hx => by
    cases n with
    | zero => simpa using h.1 x hx
    | succ k =>
      rw [Tr.get_succ] at hx
      cases hk : Nat.beq (k % 2) 0 with
      | true =>
        rw [hk] at hx
        have := h.2.1.get (k / 2) x hx
        have h2 : k % 2 = 0 := Nat.eq_of_beq_eq_true hk
        have h3 : 2 * A * (k / 2) + (A + B) = A * (k + 1) + B := by
          have : k = 2 * (k / 2) := by omega
          have h4 : A * k = 2 * A * (k / 2) := by
            conv => lhs; rw [this]
            rw [Nat.mul_comm 2 A, Nat.mul_assoc]
          rw [Nat.mul_add, h4]; omega
        rw [h3] at this; exact this
      | false =>
        rw [hk] at hx
        have := h.2.2.get (k / 2) x hx
        have h2 : ¬ k % 2 = 0 := fun e => by rw [e] at hk; cases hk
        have h3 : 2 * A * (k / 2) + (2 * A + B) = A * (k + 1) + B := by
          have : k = 2 * (k / 2) + 1 := by omega
          have h4 : A * k = 2 * A * (k / 2) + A := by
            conv => lhs; rw [this]
            rw [Nat.mul_add, Nat.mul_one, Nat.mul_comm 2 A, Nat.mul_assoc]
          rw [Nat.mul_add, h4]; omega
        rw [h3] at this; exact this
theorem TrAll.all {α : Type} {p : Nat → α → Prop} {t : Tr α} (h : TrAll p t 1 0) : ∀ n x, t.get n = some x → p n x := fun n x hx => by
  have := h.get n x hx
  simpa using this
def tdB (P : Program) : TypeDesc → TD → Bool
  | .bool, .bool => true
  | .int k, .int k' => decide (k = k')
  | .string, .string => true
  | .pointer e, .pointer e' => Nat.beq e e'
  | .slice e, .slice e' => Nat.beq e e'
  | .array n e, .array n' e' => Nat.beq n n' && Nat.beq e e'
  | .map k e, .map k' e' => Nat.beq k k' && Nat.beq e e'
  | .struct fs, .struct l => decide (l = fs.toList.map (fun f => (f.type, f.offset))) && fs.toList.all (fun f => !(f.name == "_")) && fs.toList.all (fun f => (P.info? f.type).isSome)
  | .interface ms, .iface b => b == !ms.isEmpty
  | .func _ _ _, .func => true
  | _, .other => true
  | _, _ => false
theorem tdB_ok {P : Program} {d : TypeDesc} {i : TD} (h : tdB P d i = true) : TDOk P d i := by
  unfold tdB at h
  split at h <;> first | (cases h; done) | skip
  all_goals first | trivial | skip
  all_goals simp only [TDOk]
  all_goals first
    | exact of_decide_eq_true h
    | exact Nat.eq_of_beq_eq_true h
    | (rw [Bool.and_eq_true] at h; exact ⟨Nat.eq_of_beq_eq_true h.1, Nat.eq_of_beq_eq_true h.2⟩)
    | (rw [Bool.and_eq_true, Bool.and_eq_true] at h
       refine ⟨of_decide_eq_true h.1.1, fun f hf => ?_, fun f hf => List.all_eq_true.1 h.2 f hf⟩
       have := List.all_eq_true.1 h.1.2 f hf
       simpa using this)
    | (simpa using h)
def undB (P : Program) (t : TypeId) (i : TD) : Bool :=
  match P.underlying t with
  | some d => tdB P d i
  | none => false
def zeroOkB : Value → Bool
  | .agg cs => cs.toList.all plainV
  | v => plainV v
theorem zeroOkB_ok {v : Value} (h : zeroOkB v = true) : inD (fun _ _ => False) v := by
  unfold zeroOkB at h
  split at h
  · simp only [inD]
    exact fun v hv => plainV_ok (List.all_eq_true.1 h v (by simpa using hv))
  · exact plainV_ok h
def tyB (P : Program) (t : TypeId) (i : TI) : Bool :=
  undB P t i.d && zeroOkB i.zero && (!i.eqs || (!(P.stoodInHeld t) && !(P.eqGuardType P.depth t))) && Nat.beq i.zero.cells.size i.size
theorem TyOk.of {P : Program} {t : TypeId} {i : TI} (h : (P.info? t).map (fun f => (f.size, f.bytes, f.zero, f.comparable)) = some (i.size, i.bytes, some i.zero, i.comp)) (k : tyB P t i = true) : TyOk P t i := by
  unfold tyB at k
  rw [Bool.and_eq_true, Bool.and_eq_true, Bool.and_eq_true] at k
  obtain ⟨⟨⟨k1, k2⟩, k3⟩, k4⟩ := k
  refine ⟨?_, ?_, zeroOkB_ok k2, fun he => ?_, Nat.eq_of_beq_eq_true k4⟩
  · cases hi : P.info? t with
    | none => rw [hi] at h; cases h
    | some f =>
      rw [hi] at h
      simp only [Option.map_some, Option.some.injEq, Prod.mk.injEq] at h
      exact ⟨f, rfl, h.1, h.2.1, h.2.2.1, h.2.2.2⟩
  · unfold undB at k1
    split at k1
    · rename_i d hd
      exact ⟨d, hd, tdB_ok k1⟩
    · cases k1
  · rw [he] at k3
    simpa using k3
def FnOk (P : Program) (tb : Tb) (k : Nat) (f : Func) : Prop := P.funcs[k]? = some f ∧ (f.name == "runtime.NumGoroutine") = false ∧ funcOk tb f = true
theorem TbOk.of {P : Program} {tb : Tb} (h : TrAll (TyOk P) tb.ty 1 0) (k : TrAll (FnOk P tb) tb.fn 1 0) (m : P.follows .mixedOrders = true) : TbOk P tb := ⟨h.all, k.all, m⟩
theorem some_all {α : Type} {p : α → Prop} {x : α} (h : p x) : ∀ y, some x = some y → p y := fun y e => by cases e; exact h
theorem none_all {α : Type} {p : α → Prop} : ∀ y, (none : Option α) = some y → p y := fun y e => by cases e
end Go.Proofs.Ae
namespace Go.Proofs.Ae
variable {P : Program} {tb : Tb}
theorem fenced_free {P : Program} {F : Fence} (h : FOk true F) (m : Machine) : m.fenced P F := fun g hg =>
  ⟨(fun ha => by rw [h.2.2.2] at ha; cases ha), .inl (h.1 _), fun f _ => h.1 f, (fun d hd => by rw [h.2.1] at hd; cases hd)⟩
theorem callsIn_of_calls {F : Fence} (h : FOk true F) {f : FuncId} {args : Array Value} {w : World} {R : Ending → World → Prop} (hc : Calls P f args w R) : CallsIn F 0 P f args w R := by
  refine ⟨h.1 f, fun cs _ => ?_⟩
  obtain ⟨e, w', fr, hR, hs, hx⟩ := hc cs
  refine ⟨e, w', fr, hR, ?_, hx⟩
  cases e with
  | returned v => exact (StepsIn.of_steps hs).mono fun m _ => fenced_free h m
  | panicked chain => exact (StepsIn.of_steps hs).mono fun m _ => fenced_free h m
  | outgrown => exact hs
structure Beneath (w w' : World) : Prop where
  os : w'.os = w.os
  tape : w'.tape = w.tape
  output : w'.output = w.output
  size : w.heap.size ≤ w'.heap.size
  old : ∀ b, b < w.heap.size → w'.heap[b]? = w.heap[b]?
theorem Beneath.refl (w : World) : Beneath w w := ⟨rfl, rfl, rfl, Nat.le_refl _, fun _ _ => rfl⟩
theorem Beneath.trans {w w1 w2 : World} (h : Beneath w w1) (k : Beneath w1 w2) : Beneath w w2 :=
  ⟨k.os.trans h.os, k.tape.trans h.tape, k.output.trans h.output, Nat.le_trans h.size k.size, fun b hb => (k.old b (Nat.lt_of_lt_of_le hb h.size)).trans (h.old b hb)⟩
theorem Beneath.alloc {w w1 : World} (h : Beneath w w1) (o : Obj) : Beneath w (w1.alloc o) :=
  h.trans ⟨rfl, rfl, rfl, by show _ ≤ (w1.heap.push o).size; rw [Array.size_push]; omega, fun b hb => by
    show (w1.heap.push o)[b]? = _
    rw [Array.getElem?_push, if_neg (by omega)]⟩
theorem Beneath.drew {w w1 : World} (h : Beneath w w1) : Beneath w w1.drew := h.trans ⟨rfl, rfl, rfl, Nat.le_refl _, fun _ _ => rfl⟩
theorem Ext.beneath {ι : Io} {g : Hp} {w w' : World} (G : Good tb ι g w) (B : Beneath w w') (M : List Nat) : Ext tb ι g w ι g w' M :=
  ⟨⟨fun id o h => (G.obj id o h).mono (D := roomy ι g) (fun _ _ _ => rfl) (G.closed id o h) (fun hs => B.old _ ((G.obj id o h).lt hs)), G.apart, G.closed, G.glob⟩,
    fun _ _ => rfl, fun _ h => h, fun _ _ h _ => h, B.size, B.os, B.tape, B.output, fun b hb _ => B.old b hb, fun i o hn hs _ => absurd (hdom_of hs) hn⟩
theorem CSem.pure {f : FuncId} {args : List Value} {s : St} {v : Value} (he : Enters P f) (hv : inD (fun _ _ => False) v)
    (h : ∀ ι w, Good tb ι s.get w → (∀ x ∈ args, inD (roomy ι s.get) x) → Calls P f (args.map (conc ι)).toArray w fun e w' => e = .returned v ∧ Beneath w w') : CSem P tb f args s v s :=
  ⟨fun _ => Ev.refl s, he, fun F ι w hok G hargs hF => (callsIn_of_calls hF (h ι w G hargs)).mono fun e w' ⟨h1, h2⟩ =>
    ⟨ι, by rw [h1, conc_zero ι hv], Ext.beneath G h2 _, inD_False hv⟩⟩
theorem Ext.below {ι ι' : Io} {s : St} {g' : Hp} {w w' : World} {M : List Nat} (E : Ext tb ι s.get w ι' g' w' M) (hM : ∀ i ∈ M, ∀ o, s.get i = some o → o.writable = false) : Beneath w w' :=
  ⟨E.os, E.tape, E.output, E.size, fun b hb => E.frame b hb fun i hi o ho hw => by rw [hM i hi o ho] at hw; cases hw⟩
theorem CSem.forget {f : FuncId} {args : List Value} {s s' : St} {v : Value} (h : CSem P tb f args s v s') (hv : inD (fun _ _ => False) v) (hM : ∀ i ∈ s'.mods, ∀ o, s.get i = some o → o.writable = false) : CSem P tb f args s v s := by
  obtain ⟨h1, h2, h3⟩ := h
  refine ⟨fun _ => Ev.refl s, h2, fun F ι w hok G hargs hF => (h3 F ι w hok G hargs hF).mono fun e w' ⟨ι', k1, k2, k3⟩ => ⟨ι, ?_, Ext.beneath G (k2.below hM) _, inD_False hv⟩⟩
  rw [k1, conc_zero ι hv, conc_zero ι' hv]
end Go.Proofs.Ae
namespace Go.Proofs.Ae
variable {tb : Tb} {P : Program}
def WD (tb : Tb) (ops l : List Oper) (i : Nat) (rd wr : List (Nat × Nat)) (a : AA) (s : St) (Q : AA → St → Prop) : Prop := ∃ a' s', XD tb ops l i rd wr a s a' s' ∧ Q a' s'
theorem W.draw {id : Nat} {ops : Array Oper} {a : AA} {s : St} {Q : AX → AA → St → Prop} (h : WD tb ops.toList ops.toList 0 [] [] a s (Q .normal)) : W tb (.region id ops true) a s Q :=
  let ⟨_, _, h1, h2⟩ := h; ⟨_, _, _, X.draw h1, h2⟩
theorem WD.nil {ops : List Oper} {i : Nat} {rd wr : List (Nat × Nat)} {a : AA} {s : St} {Q : AA → St → Prop} (h : Q a s) : WD tb ops [] i rd wr a s Q := ⟨_, _, ⟨0, rfl⟩, h⟩
theorem WD.step {ops l : List Oper} {o : Oper} {i n : Nat} {rd wr rd' wr' : List (Nat × Nat)} {a a1 : AA} {s s1 : St} {Q : AA → St → Prop} (hw : wantedA ops o.guard a.tm = true) (h : stepA tb (evN tb n) o a (bare s) = some (a1, s1))
    (hc : (bif effB o.op then bif apartB (cloE ops o) s1.mods rd then some (rd, tagL i wr s1.mods) else none else bif apartB (cloE ops o) (readsA a.tm o.op) wr then some (tagL i rd (readsA a.tm o.op), wr) else none) = some (rd', wr'))
    (k : WD tb ops l (i + 1) rd' wr' a1 (joinMods s s1) Q) : WD tb ops (o :: l) i rd wr a s Q := by
  obtain ⟨a', s', ⟨m, k1⟩, k2⟩ := k
  refine ⟨a', s', ⟨max n m, ?_⟩, k2⟩
  rw [drawA_cons, hw]
  simp only [cond_true]
  rw [stepA_mono (evN_le (Nat.le_max_left n m)) h]
  simp only
  have k1' := drawA_mono (evN_le (Nat.le_max_right n m)) k1
  rcases bif_cases hc with ⟨he, hc⟩ | ⟨he, hc⟩
  · obtain ⟨ha, hc⟩ := bif_some hc
    cases hc
    rw [he]
    simp only [cond_true]
    rw [ha]; exact k1'
  · obtain ⟨ha, hc⟩ := bif_some hc
    cases hc
    rw [he]
    simp only [cond_false]
    rw [ha]; exact k1'
theorem WD.val {ops l : List Oper} {o : Oper} {i : Nat} {rd wr : List (Nat × Nat)} {a : AA} {s s1 : St} {v : Value} {bs : List Nat} {Q : AA → St → Prop} (hw : wantedA ops o.guard a.tm = true) (he : effB o.op = false) (h : opA tb.ty (bare s) a.tm o.op = some (.val v, s1))
    (hb : readsA a.tm o.op = bs) (hc : apartB (cloE ops o) bs wr = true) (k : WD tb ops l (i + 1) (tagL i rd bs) wr (a.put o.dst v) (joinMods s s1) Q) : WD tb ops (o :: l) i rd wr a s Q :=
  WD.step (n := 0) hw (by unfold stepA; rw [h]; rfl) (by rw [he, hb, hc]; rfl) k
theorem WD.do {ops l : List Oper} {o : Oper} {i : Nat} {rd wr : List (Nat × Nat)} {a : AA} {s s1 : St} {bs : List Nat} {Q : AA → St → Prop} (hw : wantedA ops o.guard a.tm = true) (he : effB o.op = true) (h : opA tb.ty (bare s) a.tm o.op = some (.skip, s1))
    (hb : s1.mods = bs) (hc : apartB (cloE ops o) bs rd = true) (k : WD tb ops l (i + 1) rd (tagL i wr bs) (a.put o.dst undefA) (joinMods s s1) Q) : WD tb ops (o :: l) i rd wr a s Q :=
  WD.step (n := 0) hw (by unfold stepA; rw [h]; rfl) (by rw [he, hb, hc]; rfl) k
theorem WD.eff {ops l : List Oper} {o : Oper} {i : Nat} {rd wr : List (Nat × Nat)} {a : AA} {s s1 : St} {v : Value} {bs : List Nat} {Q : AA → St → Prop} (hw : wantedA ops o.guard a.tm = true) (he : effB o.op = true) (h : opA tb.ty (bare s) a.tm o.op = some (.val v, s1))
    (hb : s1.mods = bs) (hc : apartB (cloE ops o) bs rd = true) (k : WD tb ops l (i + 1) rd (tagL i wr bs) (a.put o.dst v) (joinMods s s1) Q) : WD tb ops (o :: l) i rd wr a s Q :=
  WD.step (n := 0) hw (by unfold stepA; rw [h]; rfl) (by rw [he, hb, hc]; rfl) k
theorem WD.pass {ops l : List Oper} {o : Oper} {i : Nat} {rd wr : List (Nat × Nat)} {a : AA} {s : St} {Q : AA → St → Prop} (hw : wantedA ops o.guard a.tm = false) (k : WD tb ops l (i + 1) rd wr (a.put o.dst undefA) s Q) : WD tb ops (o :: l) i rd wr a s Q := by
  obtain ⟨a', s', ⟨m, k1⟩, k2⟩ := k
  refine ⟨a', s', ⟨m, ?_⟩, k2⟩
  rw [drawA_cons, hw]; exact k1
theorem WD.call {ops l : List Oper} {o : Oper} {i : Nat} {rd wr : List (Nat × Nat)} {a : AA} {s s1 : St} {f : FuncId} {args : List Value} {R : Value → St → Prop} {Q : AA → St → Prop} (hw : wantedA ops o.guard a.tm = true) (he : effB o.op = true) (h : opA tb.ty (bare s) a.tm o.op = some (.enter f args, s1))
    (hC : CP tb f args s1 R) (hc : ∀ v s2, R v s2 → apartB (cloE ops o) s2.mods rd = true) (k : ∀ v s2, R v s2 → WD tb ops l (i + 1) rd (tagL i wr s2.mods) (a.put o.dst v) (joinMods s s2) Q) : WD tb ops (o :: l) i rd wr a s Q := by
  obtain ⟨v, s2, ⟨n, h1⟩, h2⟩ := hC
  refine WD.step (n := n) hw ?_ (by rw [he, hc v s2 h2]; rfl) (k v s2 h2)
  unfold stepA
  rw [h]
  change (match callF tb (evN tb n) f args s1 with
    | some (v, s') => some (a.put o.dst v, s')
    | none => none) = _
  rw [show callF tb (evN tb n) f args s1 = some (v, s2) from h1]
theorem apartB_nil (es : List Edge) (bs : List Nat) : apartB es bs [] = true := rfl
theorem apartB_cons (es : List Edge) (bs : List Nat) (p : Nat × Nat) (ps : List (Nat × Nat)) : apartB es bs (p :: ps) = ((!(memB bs p.2) || edgeB es p.1) && apartB es bs ps) := by
  change Bool.rec (motive := fun _ => Bool) false (apartB es bs ps) (!(memB bs p.2) || edgeB es p.1) = _
  cases (!(memB bs p.2) || edgeB es p.1) <;> rfl
theorem apartB_empty (es : List Edge) : ∀ ps : List (Nat × Nat), apartB es [] ps = true
  | [] => rfl
  | p :: ps => by rw [apartB_cons, apartB_empty es ps]; rfl
theorem tagL_cons (i : Nat) (ps : List (Nat × Nat)) (b : Nat) (bs : List Nat) : tagL i ps (b :: bs) = (i, b) :: tagL i ps bs := rfl
attribute [push_cast] bare_get join_bare join_alloc
noncomputable def Tb.add (tb : Tb) (f : FuncId) (nat : List Value → St → Option (Value × St)) : Tb := ⟨tb.ty, tb.fn, fun k => bif Nat.beq k f then some nat else tb.nat k, tb.gl⟩
theorem ObjOk.conv {tb' : Tb} (ht : tb'.ty = tb.ty) (hg : tb'.gl = tb.gl) {ι : Io} {w : World} {L : Loc} {o : AObj} (h : ObjOk tb ι w L o) : ObjOk tb' ι w L o := by
  obtain ⟨ty, fn, nat, gl⟩ := tb
  obtain ⟨ty', fn', nat', gl'⟩ := tb'
  simp only at ht hg
  subst ht; subst hg
  cases o with
  | cells c m => cases m <;> exact h
  | loop st p fid tm ps as bo d => exact h
  | _ => exact h
theorem Good.conv {tb' : Tb} (ht : tb'.ty = tb.ty) (hg : tb'.gl = tb.gl) {ι : Io} {g : Hp} {w : World} (h : Good tb ι g w) : Good tb' ι g w :=
  ⟨fun i o ho => (h.obj i o ho).conv ht hg, h.apart, h.closed, fun i hi => h.glob i (by rw [← hg]; exact hi)⟩
theorem Ext.conv {tb' : Tb} (ht : tb'.ty = tb.ty) (hg : tb'.gl = tb.gl) {ι ι' : Io} {g g' : Hp} {w w' : World} {M : List Nat} (h : Ext tb ι g w ι' g' w' M) : Ext tb' ι g w ι' g' w' M :=
  ⟨h.good.conv ht hg, h.agree, h.dom, h.stay, h.size, h.os, h.tape, h.output, h.frame, h.fresh⟩
theorem CSem.conv {tb' : Tb} (ht : tb'.ty = tb.ty) (hg : tb'.gl = tb.gl) {f : FuncId} {args : List Value} {s s' : St} {v : Value} (h : CSem P tb f args s v s') : CSem P tb' f args s v s' :=
  ⟨h.1, h.2.1, fun F ι w hok G hargs hF => (h.2.2 F ι w hok (G.conv ht.symm hg.symm) hargs hF).mono fun e w' ⟨ι', h1, h2, h3⟩ => ⟨ι', h1, h2.conv ht hg, h3⟩⟩
theorem TbOk.conv {tb' : Tb} (ht : tb'.ty = tb.ty) (hg : tb'.gl = tb.gl) (hf : tb'.fn = tb.fn) (h : TbOk P tb) : TbOk P tb' := by
  obtain ⟨ty, fn, nat, gl⟩ := tb
  obtain ⟨ty', fn', nat', gl'⟩ := tb'
  simp only at ht hg hf
  subst ht; subst hg; subst hf
  exact ⟨h.ty, h.fn, h.mixed⟩
theorem CSem.joined {f : FuncId} {args : List Value} {s s1 : St} {v : Value} (h : CSem P tb f args (bare s) v s1) : CSem P tb f args s v (joinMods s s1) :=
  ⟨fun hok => (h.1 hok).ofJoin, h.2.1, fun F ι w hok G hargs hF => (h.2.2 F ι w hok G hargs hF).mono fun e w' ⟨ι', h1, h2, h3⟩ => ⟨ι', h1, h2.more (fun i hi => by show i ∈ s1.mods ++ s.mods; simp [hi]), h3⟩⟩
theorem CSem.forgetAll {f : FuncId} {args : List Value} {s s1 : St} {v : Value} (h : CSem P tb f args (bare s) v s1) (hv : inD (fun _ _ => False) v) (hM : ∀ i ∈ s1.mods, ∀ o, s.get i = some o → o.writable = false) : CSem P tb f args s v s := by
  have := (CSem.forget h hv hM).joined
  exact this
theorem CSem.of {k : FuncId} (TB : TbOk P tb) (HN : NatOk P tb) {args : List Value} {s s1 : St} {v : Value} (h : CP tb k args s (fun v' s' => v' = v ∧ s' = s1)) : CSem P tb k args s v s1 := by
  obtain ⟨v', s', ⟨n, h1⟩, rfl, rfl⟩ := h
  exact run_ok TB HN h1
theorem NatOk.none (hn : ∀ k, tb.nat k = none) : NatOk P tb := fun f nat h => by rw [hn] at h; cases h
theorem NatOk.add {f : FuncId} {nat : List Value → St → Option (Value × St)} (HN : NatOk P tb) (h : ∀ args s v s', nat args s = some (v, s') → CSem P tb f args s v s') : NatOk P (tb.add f nat) := by
  intro k nat' hk args s v s' hs
  unfold Tb.add at hk
  simp only at hk
  rcases bif_cases hk with ⟨hb, hk⟩ | ⟨_, hk⟩
  · cases hk
    have : k = f := Nat.eq_of_beq_eq_true hb
    subst this
    exact CSem.conv (tb := tb) (tb' := tb.add k nat) rfl rfl (h args s v s' hs)
  · exact CSem.conv (tb := tb) (tb' := tb.add f nat) rfl rfl (HN k nat' hk args s v s' hs)
theorem TbOk.add {f : FuncId} {nat : List Value → St → Option (Value × St)} (h : TbOk P tb) : TbOk P (tb.add f nat) := TbOk.conv (tb := tb) (tb' := tb.add f nat) rfl rfl rfl h
theorem keepL_none {s : St} {old : List Nat} : ∀ {l : List Nat}, (∀ i ∈ l, s.get i = none) → keepL s old l = old
  | [], _ => rfl
  | i :: l, h => by
    change Option.rec (motive := fun _ => List Nat) (keepL s old l) (fun _ => i :: keepL s old l) (s.get i) = old
    rw [h i (by simp)]
    exact keepL_none (fun j hj => h j (by simp [hj]))
end Go.Proofs.Ae
namespace Go.Proofs.Ae
variable {tb : Tb} {P : Program}
theorem Good.sub {ι : Io} {g h : Hp} {w : World} (G : Good tb ι g w) (hs : ∀ i o, h i = some o → g i = some o) (hc : ∀ i o, h i = some o → o.inD (fun i _ => hdom h i)) (hg : ∀ i, tb.gl i = true → hdom h i) : Good tb ι h w :=
  ⟨fun i o k => G.obj i o (hs i o k), fun i o j o' k k' => G.apart i o j o' (hs i o k) (hs j o' k'),
    fun i o k => AObj.inD_mono (fun i r ⟨h1, h2⟩ => ⟨h2, h1.2⟩) (AObj.inD_and (G.closed i o (hs i o k)) (hc i o k)), fun i hi => ⟨hg i hi, (G.glob i hi).2⟩⟩
structure Part (tb : Tb) (t : St) : Prop where
  ok : t.Ok
  closed : ∀ i o, t.get i = some o → o.inD (fun i _ => hdom t.get i)
  glob : ∀ i, tb.gl i = true → hdom t.get i
theorem CSem.sub {f : FuncId} {args : List Value} {s t s1 : St} {v : Value} (h : CSem P tb f args t v s1) (ht : Part tb t) (hs : ∀ i o, t.get i = some o → s.get i = some o)
    (ha : ∀ x ∈ args, inD (fun i _ => hdom t.get i) x) (hv : inD (fun _ _ => False) v) (hM : ∀ i ∈ s1.mods, ∀ o, t.get i = some o → o.writable = false) : CSem P tb f args s v s := by
  obtain ⟨h1, h2, h3⟩ := h
  refine ⟨fun _ => Ev.refl s, h2, fun F ι w hok G hargs hF => (h3 F ι w ht.ok (G.sub hs ht.closed ht.glob) (fun x hx => inD_mono (fun i r ⟨k1, k2⟩ => ⟨k2, k1.2⟩) x (inD_and x (hargs x hx) (ha x hx))) hF).mono fun e w' ⟨ι', k1, k2, k3⟩ => ⟨ι, ?_, Ext.beneath G (k2.below hM) _, inD_False hv⟩⟩
  rw [k1, conc_zero ι hv, conc_zero ι' hv]
end Go.Proofs.Ae
namespace Go.Proofs.Ae
variable {P : Program} {tb : Tb}
def MQ (tb : Tb) (N : Nat) (ι : Io) (s : St) (w : World) (r : Bool) (Q : AX → AA → St → Prop) : Exit → Act → World → Prop := fun e c w' =>
  ∃ x a' s' ι', e = exOf x ∧ a'.rnd = r ∧ Ev s s' ∧ Ext tb ι s.get w ι' s'.get w' s'.mods ∧ AOk ι' s'.get N a' c ∧ Q x a' s'
def MW (P : Program) (tb : Tb) (c : Code) (a : AA) (s : St) (Q : AX → AA → St → Prop) : Prop :=
  ∀ N F ι w ac, s.Ok → Good tb ι s.get w → codeOk tb N c = true → FOk a.rnd F → AOk ι s.get N a ac → c.wpIn F 0 P (MQ tb N ι s w a.rnd Q) ac w
theorem MQ.after {N : Nat} {ι ι1 : Io} {s s1 : St} {w w1 : World} {r : Bool} {Q : AX → AA → St → Prop} {e : Exit} {c : Act} {w' : World} (hev : Ev s s1) (E : Ext tb ι s.get w ι1 s1.get w1 s1.mods) (h : MQ tb N ι1 s1 w1 r Q e c w') : MQ tb N ι s w r Q e c w' := by
  obtain ⟨x, a', s', ι', h1, h2, h3, h4, h5, h6⟩ := h
  exact ⟨x, a', s', ι', h1, h2, hev.trans h3, E.trans h4 h3.mods, h5, h6⟩
theorem MW.mono {c : Code} {a : AA} {s : St} {Q Q' : AX → AA → St → Prop} (h : MW P tb c a s Q) (hq : ∀ x a s, Q x a s → Q' x a s) : MW P tb c a s Q' :=
  fun N F ι w ac hok G hc hF hA => wpIn_mono (h N F ι w ac hok G hc hF hA) fun e c w' ⟨x, a', s', ι', h1, h2, h3, h4, h5, h6⟩ => ⟨x, a', s', ι', h1, h2, h3, h4, h5, hq _ _ _ h6⟩
theorem MW.of (TB : TbOk P tb) (HN : NatOk P tb) {c : Code} {a : AA} {s : St} {Q : AX → AA → St → Prop} (h : W tb c a s Q) : MW P tb c a s Q := by
  obtain ⟨x, a', s', ⟨n, h1⟩, h2⟩ := h
  obtain ⟨e1, e2, e3⟩ := evN_ok TB HN n _ _ _ _ _ _ h1
  refine fun N F ι w ac hok G hc hF hA => wpIn_mono (e3 N F ι w ac hok G hc hF hA).wpIn fun e c w' ⟨k1, ι', k2, k3⟩ => ⟨x, a', s', ι', k1, e2, e1 hok, k2, k3, h2⟩
theorem MW.seq {y z : Code} {a : AA} {s : St} {Q : AX → AA → St → Prop} (h : MW P tb y a s (thenW (fun a1 s1 => MW P tb z a1 s1 Q) Q)) : MW P tb (.seq y z) a s Q := by
  intro N F ι w ac hok G hc hF hA
  have hc' : (codeOk tb N y && codeOk tb N z) = true := hc
  rw [Bool.and_eq_true] at hc'
  refine wpIn_seq (wpIn_mono (h N F ι w ac hok G hc'.1 hF hA) fun e c w1 ⟨x, a1, s1, ι1, k1, k2, k3, k4, k5, k6⟩ => ?_)
  subst k1
  cases x with
  | normal =>
    refine wpIn_mono (k6 N F ι1 w1 c (k3.ok hok) k4.good hc'.2 (by rw [k2]; exact hF) k5) fun e c' w' hp => ?_
    rw [k2] at hp
    exact hp.after k3 k4
  | exit id => exact ⟨_, a1, s1, ι1, rfl, k2, k3, k4, k5, k6⟩
  | ret => exact ⟨_, a1, s1, ι1, rfl, k2, k3, k4, k5, k6⟩
theorem CSem.ofMW (TB : TbOk P tb) {f : FuncId} {fn : Func} {c : Code} {args : List Value} {s s2 : St} {v : Value} (hf : tb.fn.get f = some fn) (hb : fn.body = some c) (hl : args.length ≤ fn.ntmps) (hev : s.Ok → Ev s s2)
    (h : MW P tb c ⟨argsTr args 0 .nil, [], false, f⟩ (bare s) (fun x a1 s1 => (x = .normal ∨ x = .ret) ∧ a1.df = [] ∧ (∃ vs, resA tb.ty s1 a1.tm fn.results.toList = some vs ∧ tup vs = v) ∧ s1.get = s2.get ∧ ∀ i ∈ s1.mods, hdom s.get i → i ∈ s2.mods)) : CSem P tb f args s v s2 := by
  obtain ⟨k1, k2, k3⟩ := TB.fn _ _ hf
  have hcode : codeOk tb fn.ntmps c = true := by unfold funcOk at k3; rw [hb] at k3; exact k3
  refine ⟨hev, ⟨fn, k1, k2, by rw [hb]; rfl⟩, fun F ι w hok G hargs hF => ?_⟩
  have hF' : FOk false F.plain := ⟨hF.1, hF.2.1, fun _ => rfl, hF.2.2.2⟩
  have key := h fn.ntmps F.plain ι w { tmps := (args.map (conc ι)).toArray ++ Array.replicate (fn.ntmps - (args.map (conc ι)).toArray.size) undef, defers := [] } hok G hcode hF' ⟨enter_tm hl, enter_in hargs, trivial, by simp⟩
  have : CallsIn F.plain 0 P f (args.map (conc ι)).toArray w (CEnd tb ι s w v s2) := by
    refine callsIn_of_wp_marks k1 hb (hF.1 f) (wpIn_mono key fun e ac w' hp => ?_)
    obtain ⟨x, a1, s1, ι', rfl, hr, hv1, E, hA, hx, hdf, ⟨vs, hvs, rfl⟩, hg, hm⟩ := hp
    have hlv : LeavesInM F.plain 0 P fn ac.tmps (CEnd tb ι s w (tup vs) s2) ac.defers .returning w' := by
      refine (leave_ok (rec := fun _ _ _ => none) TB (fun c a s x a' s' h => by cases h) hF' [] s1 s1 rfl).2 ι' w' ac.defers (hv1.ok hok) E.good (by rw [← hdf]; exact hA.df) (by simp) fun ι2 w2 E2 => ?_
      obtain ⟨q1, q2⟩ := results_ok TB E2.good (hA.tm.congr hA.tin (fun i k hi => E2.agree i hi.1)) (hA.tin.mono E2.rm) hvs
      refine ⟨_, q1, ι2, rfl, ?_, by rw [← hg]; exact q2⟩
      have := (E.trans E2 (fun _ h => h)).cut (M' := s2.mods) (fun i hi hd => hm i hi hd)
      rw [← hg]; exact this
    rcases hx with rfl | rfl
    · exact hlv
    · exact hlv
  exact this
theorem reg_part (TB : TbOk P tb) {rec : Ex} (HC : CallOk P tb rec) (HR : RoundOk P tb rec) (ops : List Oper) : ∀ (l pre l2 : List Oper), ops = pre ++ l ++ l2 → ∀ {a a' : AA} {s s' : St}, regA tb rec ops l a s = some (a', s') →
    (s.Ok → Ev s s') ∧ a'.rnd = a.rnd ∧ ∀ N F ι w ac (Q : Exit → Act → World → Prop), s.Ok → Good tb ι s.get w → (∀ o ∈ ops, opOk tb N o = true) → FOk a.rnd F → AOk ι s.get N a ac →
      (∀ ι' ac' w', Ext tb ι s.get w ι' s'.get w' s'.mods → AOk ι' s'.get N a' ac' → wpOpsIn F 0 P ops.toArray Q (List.range' (pre.length + l.length) l2.length) ac' w') → wpOpsIn F 0 P ops.toArray Q (List.range' pre.length (l.length + l2.length)) ac w := by
  intro l
  induction l with
  | nil =>
    intro pre l2 hpre a a' s s' h
    cases h
    exact ⟨fun _ => Ev.refl _, rfl, fun N F ι w ac Q hok G hops hF hA hQ => by simpa using hQ ι ac w (Ext.refl G _) hA⟩
  | cons o l ih =>
    intro pre l2 hpre a a' s s' h
    have hi : ops.toArray[pre.length]? = some o := by rw [List.getElem?_toArray, hpre]; simp
    have hmem : o ∈ ops := by rw [hpre]; simp
    have hpre' : ops = (pre ++ [o]) ++ l ++ l2 := by rw [hpre]; simp
    have hlen : (pre ++ [o]).length = pre.length + 1 := by simp
    have hln2 : pre.length + (o :: l).length = (pre ++ [o]).length + l.length := by simp; omega
    rw [regA_cons] at h
    have hrange : List.range' pre.length ((o :: l).length + l2.length) = pre.length :: List.range' (pre ++ [o]).length (l.length + l2.length) := by
      rw [hlen, show (o :: l).length + l2.length = (l.length + l2.length) + 1 from by simp; omega, List.range'_succ]
    cases hw : wantedA ops o.guard a.tm with
    | false =>
      rw [hw] at h
      simp only [cond_false] at h
      obtain ⟨h1, h2, h3⟩ := ih (pre ++ [o]) l2 hpre' h
      refine ⟨h1, by rw [h2, put_rnd], fun N F ι w ac Q hok G hops hF hA hQ => ?_⟩
      rw [hrange, wpOpsIn_cons]
      unfold wpOpIn
      rw [hi]
      simp only
      rw [wanted_eq (tm := a.tm) (ι := ι) (fun g want og d _ _ _ => hA.tm.2 d)]
      simp only [List.toList_toArray, hw, Bool.false_eq_true, if_false]
      refine ⟨about_ok hF.1 _ _ _, ?_⟩
      have hp := hA.put (opOk_dst (hops o hmem)) (inD_undef (roomy ι s.get))
      rw [conc_undef] at hp
      exact h3 N F ι w _ Q hok G hops (by rw [put_rnd]; exact hF) hp (by rw [← hln2]; exact hQ)
    | true =>
      rw [hw] at h
      simp only [cond_true] at h
      cases hs : stepA tb rec o a s with
      | none => rw [hs] at h; cases h
      | some p =>
        obtain ⟨a1, s1⟩ := p
        rw [hs] at h
        obtain ⟨e1, e2, e3⟩ := step_act TB HC HR hs
        obtain ⟨h1, h2, h3⟩ := ih (pre ++ [o]) l2 hpre' h
        refine ⟨fun hok => (e1 hok).trans (h1 ((e1 hok).ok hok)), h2.trans e2, fun N F ι w ac Q hok G hops hF hA hQ => ?_⟩
        rw [hrange, wpOpsIn_cons]
        unfold wpOpIn
        rw [hi]
        simp only
        rw [wanted_eq (tm := a.tm) (ι := ι) (fun g want og d _ _ _ => hA.tm.2 d)]
        simp only [List.toList_toArray, hw, if_true]
        refine e3 N F ι w ac _ Q hok G (hops o hmem) hF hA fun ι1 ac1 w1 E1 hA1 => ?_
        have hok1 := (e1 hok).ok hok
        refine h3 N F ι1 w1 ac1 Q hok1 E1.good hops (by rw [e2]; exact hF) hA1 fun ι' ac' w' E hA' => ?_
        rw [← hln2]
        exact hQ ι' ac' w' (E1.trans E (h1 hok1).mods) hA'
theorem wpIn_regionL {F : Fence} {id : Nat} {ops : Array Oper} {Q : Exit → Act → World → Prop} {a : Act} {w : World} (h : wpOpsIn F 0 P ops.toList.toArray Q (List.range' 0 ops.toList.length) a w) : (Code.region id ops false).wpIn F 0 P Q a w := by
  refine wpIn_region ?_
  rw [List.range_eq_range']
  simpa using h
theorem op_self {ops pre l2 : List Oper} {o : Oper} {k cnt : Nat} (hpre : ops = pre ++ o :: l2) (hk : k = pre.length) (hcnt : cnt = l2.length + 1) (hg : o.guard = none) (hd : ∀ c, o.op ≠ .defer c) {F : Fence} {rnd : Bool} (hF : FOk rnd F) {Q : Exit → Act → World → Prop} {ac : Act} {w w' : World} {v : Value}
    (h1 : (execOp ac.eval o).run P w = .ok (.value v) w') (hK : wpOpsIn F 0 P ops.toArray Q (List.range' (k + 1) l2.length) (ac.put o.dst v) w') : wpOpsIn F 0 P ops.toArray Q (List.range' k cnt) ac w := by
  subst hk; subst hcnt
  have hi : ops.toArray[pre.length]? = some o := by rw [List.getElem?_toArray, hpre]; simp
  rw [List.range'_succ, wpOpsIn_cons]
  unfold wpOpIn
  rw [hi]
  simp only
  have : Region.wanted o (yielded ops.toArray ac.tmps) = true := by unfold Region.wanted; rw [hg]
  rw [this]
  simp only [if_true]
  refine ⟨about_ok hF.1 _ _ _, ?_⟩
  rw [Oper.semAt_eq _ _ _ hd, h1]
  exact hK
theorem reg_tail (TB : TbOk P tb) (HN : NatOk P tb) {ops l : List Oper} {pre : List Oper} (hpre : ops = pre ++ l) {a : AA} {s : St} {R : AA → St → Prop} (h : WR tb ops l a s R) {k cnt : Nat} (hk : k = pre.length) (hcnt : cnt = l.length) :
    ∃ a' s', R a' s' ∧ (s.Ok → Ev s s') ∧ a'.rnd = a.rnd ∧ ∀ N F ι w ac (Q : Exit → Act → World → Prop), s.Ok → Good tb ι s.get w → (∀ o ∈ ops, opOk tb N o = true) → FOk a.rnd F → AOk ι s.get N a ac →
      (∀ ι' ac' w', Ext tb ι s.get w ι' s'.get w' s'.mods → AOk ι' s'.get N a' ac' → Q .normal ac' w') → wpOpsIn F 0 P ops.toArray Q (List.range' k cnt) ac w := by
  obtain ⟨a', s', ⟨n, hr⟩, hR⟩ := h
  subst hk; subst hcnt
  obtain ⟨e1, e2, e3⟩ := reg_sound TB (call_ok TB HN (evN_ok TB HN n)) (round_ok (evN_ok TB HN n)) ops l pre hpre hr
  exact ⟨a', s', hR, e1, e2, e3⟩
theorem reg_head (TB : TbOk P tb) (HN : NatOk P tb) {ops l : List Oper} {o : Oper} (hpre : ops = l ++ [o]) {a : AA} {s : St} {R : AA → St → Prop} (h : WR tb ops l a s R) :
    ∃ a' s', R a' s' ∧ (s.Ok → Ev s s') ∧ a'.rnd = a.rnd ∧ ∀ N F ι w ac (Q : Exit → Act → World → Prop), s.Ok → Good tb ι s.get w → (∀ o ∈ ops, opOk tb N o = true) → FOk a.rnd F → AOk ι s.get N a ac →
      (∀ ι' ac' w', Ext tb ι s.get w ι' s'.get w' s'.mods → AOk ι' s'.get N a' ac' → wpOpsIn F 0 P ops.toArray Q (List.range' l.length 1) ac' w') → wpOpsIn F 0 P ops.toArray Q (List.range' 0 ops.length) ac w := by
  obtain ⟨a', s', ⟨n, hr⟩, hR⟩ := h
  obtain ⟨e1, e2, e3⟩ := reg_part TB (call_ok TB HN (evN_ok TB HN n)) (round_ok (evN_ok TB HN n)) ops l [] [o] (by rw [hpre]; simp) hr
  refine ⟨a', s', hR, e1, e2, fun N F ι w ac Q hok G hops hF hA hQ => ?_⟩
  have := e3 N F ι w ac Q hok G hops hF hA (fun ι' ac' w' E A => by simpa using hQ ι' ac' w' E A)
  rw [show ops.length = l.length + 1 from by rw [hpre]; simp]
  simpa using this
end Go.Proofs.Ae
namespace Go.Proofs.Ae
noncomputable def lead (tb : Tb) (n : Nat) : Nat → Code → AA → St → Option (Code × AA × St)
  | 0, c, a, s => some (c, a, s)
  | k + 1, .seq y z, a, s => match evN tb n y a s with
    | some (.normal, a', s') => lead tb n k z a' s'
    | _ => none
  | _ + 1, _, _, _ => none
def dropN : Nat → Code → Code
  | 0, c => c
  | k + 1, .seq _ z => dropN k z
  | _ + 1, c => c
noncomputable def objsAt (s : St) : List Nat → Option (List AObj)
  | [] => some []
  | i :: l => match s.get i with
    | some o => match objsAt s l with
      | some r => some (o :: r)
      | none => none
    | none => none
noncomputable def domAll (s : St) : List Nat → Bool
  | [] => true
  | i :: l => match s.get i with
    | some _ => domAll s l
    | none => false
noncomputable def tmsAt (tm : Tr Value) : Nat → List Value
  | 0 => []
  | k + 1 => tmsAt tm k ++ [tmA tm k]
def dfNil : List ADef → Bool
  | [] => true
  | _ => false
noncomputable def segOut (ids deads : List Nat) (N : Nat) : Option (Code × AA × St) → Option (List AObj × List Value × Nat)
  | some (_, a, s) => match objsAt s ids with
    | some r => bif domAll s deads && (dfNil a.df && (!a.rnd)) then some (r, tmsAt a.tm N, s.next) else none
    | none => none
  | none => none
noncomputable def litT : List Nat → List AObj → Tr AObj → Tr AObj
  | i :: l, o :: r, t => litT l r (t.set i o)
  | _, _, t => t
noncomputable def deadT : List Nat → Tr AObj → Tr AObj
  | [], t => t
  | i :: l, t => deadT l (t.set i .dead)
noncomputable def litSt (ids : List Nat) (objs : List AObj) (deads : List Nat) (nx : Nat) : St := ⟨litT ids objs (deadT deads .nil), nx, []⟩
noncomputable def litTm : Nat → List Value → Tr Value → Tr Value
  | k, v :: l, t => litTm (k + 1) l (t.set k v)
  | _, [], t => t
noncomputable def rl : List (Nat × Int) → List Value
  | [] => []
  | (n, b) :: l => repl [.int .u8 b] n ++ rl l
noncomputable def inB (d : Nat → Bool) : Nat → Value → Bool
  | 0, _ => false
  | n + 1, v => match v with
    | .pointer (some a) => d a.block
    | .slice (some a) _ _ => d a.block
    | .map (some r) => d r
    | .func f x y => (match f with
      | .yield l => d l
      | _ => true) && (x.toList.all (inB d n) && y.toList.all (inB d n))
    | .iface _ w => inB d n w
    | .agg cs => cs.toList.all (inB d n)
    | .tuple cs => cs.toList.all (inB d n)
    | _ => true
noncomputable def objB (d : Nat → Bool) : AObj → Bool
  | .cells c _ => c.all (inB d 8)
  | .map es => es.all fun p => inB d 8 p.1 && inB d 8 p.2
  | .dead => true
  | _ => false
noncomputable def litOk (ids : List Nat) (objs : List AObj) (deads : List Nat) (nx : Nat) (tms : List Value) (gls : List Nat) : Bool :=
  let s := litSt ids objs deads nx
  let d := fun i => match s.get i with
    | some _ => true
    | none => false
  Nat.beq ids.length objs.length && (objs.all (objB d) && (tms.all (inB d 8) && (gls.all d && (ids.all (fun i => Nat.ble (i + 1) nx) && deads.all (fun i => Nat.ble (i + 1) nx)))))
def codeOf (f : Func) : Code := match f.body with
  | some c => c
  | none => .skip
end Go.Proofs.Ae
namespace Go.Proofs.Ae
variable {P : Program} {tb : Tb}
structure Now (tb : Tb) (N : Nat) (w0 : World) (ι : Io) (a : AA) (s : St) (w : World) (ac : Act) : Prop where
  ok : s.Ok
  good : Good tb ι s.get w
  aok : AOk ι s.get N a ac
  new : ∀ i o, s.get i = some o → o.writable = true → w0.heap.size ≤ (ι i).block
  ben : Beneath w0 w
def MBQ (tb : Tb) (N : Nat) (w0 : World) (r : Bool) (Q : AX → AA → St → Prop) : Exit → Act → World → Prop := fun e c w' => ∃ x a' s' ι', e = exOf x ∧ a'.rnd = r ∧ Now tb N w0 ι' a' s' w' c ∧ Q x a' s'
def MB (P : Program) (tb : Tb) (N : Nat) (c : Code) (a : AA) (s : St) (Q : AX → AA → St → Prop) : Prop :=
  ∀ F w0 ι w ac, Now tb N w0 ι a s w ac → codeOk tb N c = true → FOk a.rnd F → c.wpIn F 0 P (MBQ tb N w0 a.rnd Q) ac w
theorem Now.ext {N : Nat} {w0 : World} {ι ι' : Io} {a a' : AA} {s s' : St} {w w' : World} {ac ac' : Act} (h : Now tb N w0 ι a s w ac) (hok : s'.Ok) (E : Ext tb ι s.get w ι' s'.get w' s'.mods) (hA : AOk ι' s'.get N a' ac') : Now tb N w0 ι' a' s' w' ac' := by
  refine ⟨hok, E.good, hA, fun i o hg hw => ?_, ?_⟩
  · cases hd : s.get i with
    | some o1 =>
      rw [E.agree i (hdom_of hd)]
      cases hw1 : o1.writable with
      | true => exact h.new i o1 hd hw1
      | false =>
        have := E.stay i o1 hd hw1
        rw [hg] at this; cases this
        rw [hw] at hw1; cases hw1
    | none =>
      rcases E.fresh i o (by unfold hdom; rw [hd]; simp) hg (solid_of_writable hw) with hb | ⟨B, oB, _, hgB, hwB, hbB⟩
      · exact Nat.le_trans h.ben.size hb
      · rw [← hbB]; exact h.new B oB hgB hwB
  · exact ⟨E.os.trans h.ben.os, E.tape.trans h.ben.tape, E.output.trans h.ben.output, Nat.le_trans h.ben.size E.size, fun b hb => by
      rw [E.frame b (Nat.lt_of_lt_of_le hb h.ben.size) (fun i _ o hg hw e => by have := h.new i o hg hw; omega), h.ben.old b hb]⟩
theorem MB.run (TB : TbOk P tb) (HN : NatOk P tb) {N n : Nat} {c : Code} {a a' : AA} {s s' : St} {x : AX} {Q : AX → AA → St → Prop} (h1 : evN tb n c a s = some (x, a', s')) (h2 : Q x a' s') : MB P tb N c a s Q := by
  obtain ⟨e1, e2, e3⟩ := evN_ok TB HN n _ _ _ _ _ _ h1
  refine fun F w0 ι w ac H hc hF => wpIn_mono (e3 N F ι w ac H.ok H.good hc hF H.aok).wpIn fun e c w' ⟨k1, ι', k2, k3⟩ => ⟨x, a', s', ι', k1, e2, H.ext ((e1 H.ok).ok H.ok) k2 k3, h2⟩
theorem MB.seq {N : Nat} {y z : Code} {a : AA} {s : St} {Q : AX → AA → St → Prop} (h : MB P tb N y a s (thenW (fun a1 s1 => MB P tb N z a1 s1 Q) Q)) : MB P tb N (.seq y z) a s Q := by
  intro F w0 ι w ac H hc hF
  have hc' : (codeOk tb N y && codeOk tb N z) = true := hc
  rw [Bool.and_eq_true] at hc'
  refine wpIn_seq (wpIn_mono (h F w0 ι w ac H hc'.1 hF) fun e c w1 ⟨x, a1, s1, ι1, k1, k2, k3, k4⟩ => ?_)
  subst k1
  cases x with
  | normal =>
    refine wpIn_mono (k4 F w0 ι1 w1 c k3 hc'.2 (by rw [k2]; exact hF)) fun e c' w' hp => ?_
    rw [k2] at hp
    exact hp
  | exit id => exact ⟨_, a1, s1, ι1, rfl, k2, k3, k4⟩
  | ret => exact ⟨_, a1, s1, ι1, rfl, k2, k3, k4⟩
theorem MB.lead (TB : TbOk P tb) (HN : NatOk P tb) {N n : Nat} {Q : AX → AA → St → Prop} : ∀ {k : Nat} {c z : Code} {a a' : AA} {s s' : St}, lead tb n k c a s = some (z, a', s') → MB P tb N z a' s' Q → MB P tb N c a s Q
  | 0, c, z, a, a', s, s', h, hz => by cases h; exact hz
  | k + 1, c, z, a, a', s, s', h, hz => by
    cases c with
    | seq y z1 =>
      change (match evN tb n y a s with | some (.normal, a', s') => Ae.lead tb n k z1 a' s' | _ => none) = _ at h
      split at h
      · rename_i a2 s2 hy
        exact MB.seq (MB.run TB HN hy (MB.lead TB HN (k := k) (c := z1) h hz))
      · cases h
    | _ => cases h
theorem lead_code {n : Nat} : ∀ {k : Nat} {c z : Code} {a a' : AA} {s s' : St}, lead tb n k c a s = some (z, a', s') → z = dropN k c
  | 0, c, z, a, a', s, s', h => by cases h; rfl
  | k + 1, c, z, a, a', s, s', h => by
    cases c with
    | seq y z1 =>
      change (match evN tb n y a s with | some (.normal, a', s') => lead tb n k z1 a' s' | _ => none) = _ at h
      split at h
      · exact lead_code (n := n) (k := k) (c := z1) h
      · cases h
    | _ => cases h
theorem MB.weak {N : Nat} {c : Code} {a a' : AA} {s t : St} {Q : AX → AA → St → Prop} (h : MB P tb N c a' t Q) (hdf : a.df = []) (hdf' : a'.df = []) (hr : a'.rnd = a.rnd) (htm : ∀ k, k < N → tmA a'.tm k = tmA a.tm k) (htm2 : ∀ k, N ≤ k → tmA a'.tm k = undefA)
    (hsub : ∀ i o, t.get i = some o → s.get i = some o ∨ (o = .dead ∧ hdom s.get i)) (hcl : ∀ i o, t.get i = some o → o.inD (fun i _ => hdom t.get i)) (htin : ∀ k, inD (fun i _ => hdom t.get i) (tmA a'.tm k)) (hok : t.Ok) (hgl : ∀ i, tb.gl i = true → hdom t.get i) : MB P tb N c a s Q := by
  intro F w0 ι w ac H hc hF
  have hd : ∀ i, hdom t.get i → hdom s.get i := fun i hi => by
    cases hg : t.get i with
    | none => exact absurd hg hi
    | some o =>
      rcases hsub i o hg with h1 | ⟨_, h1⟩
      · exact hdom_of h1
      · exact h1
  have hin : ∀ k, inD (roomy ι t.get) (tmA a'.tm k) := fun k => by
    by_cases hk : k < N
    · exact inD_mono (fun i r (h : roomy ι s.get i r ∧ hdom t.get i) => ⟨h.2, h.1.2⟩) _ (inD_and _ (by rw [htm k hk]; exact H.aok.tin k) (htin k))
    · rw [htm2 k (by omega)]; exact inD_undef _
  have G : Good tb ι t.get w := by
    refine ⟨fun i o h1 => ?_, fun i o j o' h1 h2 hw hs hne => ?_, fun i o h1 => ?_, fun i hi => ⟨hgl i hi, (H.good.glob i hi).2⟩⟩
    · rcases hsub i o h1 with h2 | ⟨rfl, h2⟩
      · exact H.good.obj i o h2
      · exact trivial
    · rcases hsub i o h1 with k1 | ⟨rfl, _⟩
      · rcases hsub j o' h2 with k2 | ⟨rfl, _⟩
        · exact H.good.apart i o j o' k1 k2 hw hs hne
        · cases hs
      · cases hw
    · rcases hsub i o h1 with h2 | ⟨rfl, h2⟩
      · exact AObj.inD_mono (fun i r ⟨k1, k2⟩ => ⟨k2, k1.2⟩) (AObj.inD_and (H.good.closed i o h2) (hcl i o h1))
      · exact trivial
  have hA : AOk ι t.get N a' ac := by
    refine ⟨⟨H.aok.tm.1, fun k => ?_⟩, hin, by have := H.aok.df; rw [hdf] at this; rw [hdf']; exact this, by rw [hdf']; simp⟩
    by_cases hk : k < N
    · rw [htm k hk]; exact H.aok.tm.2 k
    · rw [htm2 k (by omega), conc_undef, Array.getD_eq_getD_getElem?, Array.getElem?_eq_none (by rw [H.aok.tm.1]; omega)]; rfl
  have hnew : ∀ i o, t.get i = some o → o.writable = true → w0.heap.size ≤ (ι i).block := by
    intro i o hg hw
    rcases hsub i o hg with k1 | ⟨rfl, _⟩
    · exact H.new i o k1 hw
    · cases hw
  have hN : Now tb N w0 ι a' t w ac := ⟨hok, G, hA, hnew, H.ben⟩
  have := h F w0 ι w ac hN hc (by rw [hr]; exact hF)
  rw [hr] at this
  exact this
theorem CSem.ofMB (TB : TbOk P tb) {f : FuncId} {fn : Func} {c : Code} {s t : St} {v : Value} (hf : tb.fn.get f = some fn) (hb : fn.body = some c) (ht : Part tb t) (hro : ∀ i o, t.get i = some o → o.writable = false) (hs : ∀ i o, t.get i = some o → s.get i = some o) (hv : inD (fun _ _ => False) v)
    (h : MB P tb fn.ntmps c ⟨.nil, [], false, f⟩ t (fun x a1 s1 => (x = .normal ∨ x = .ret) ∧ a1.df = [] ∧ ∃ vs, resA tb.ty s1 a1.tm fn.results.toList = some vs ∧ tup vs = v)) : CSem P tb f [] s v s := by
  obtain ⟨k1, k2, k3⟩ := TB.fn _ _ hf
  have hcode : codeOk tb fn.ntmps c = true := by unfold funcOk at k3; rw [hb] at k3; exact k3
  refine ⟨fun _ => Ev.refl s, ⟨fn, k1, k2, by rw [hb]; rfl⟩, fun F ι w hok G hargs hF => ?_⟩
  have hF' : FOk false F.plain := ⟨hF.1, hF.2.1, fun _ => rfl, hF.2.2.2⟩
  have Gt := G.sub hs ht.closed ht.glob
  have hA : AOk ι t.get fn.ntmps ⟨.nil, [], false, f⟩ { tmps := ([].map (conc ι)).toArray ++ Array.replicate (fn.ntmps - ([].map (conc ι)).toArray.size) undef, defers := [] } := ⟨enter_tm (args := []) (Nat.zero_le _), enter_in (args := []) (by simp), trivial, by simp⟩
  have key := h F.plain w ι w _ ⟨ht.ok, Gt, hA, (fun i o hg hw => absurd hw (by rw [hro i o hg]; simp)), Beneath.refl w⟩ hcode hF'
  have : CallsIn F.plain 0 P f ([].map (conc ι)).toArray w (CEnd tb ι s w v s) := by
    refine callsIn_of_wp_marks k1 hb (hF.1 f) (wpIn_mono key fun e ac w' hp => ?_)
    obtain ⟨x, a1, s1, ι', rfl, hr, hN, hx, hdf, vs, hvs, rfl⟩ := hp
    have hlv : LeavesInM F.plain 0 P fn ac.tmps (CEnd tb ι s w (tup vs) s) ac.defers .returning w' := by
      refine (leave_ok (rec := fun _ _ _ => none) TB (fun c a s x a' s' h => by cases h) hF' [] s1 s1 rfl).2 ι' w' ac.defers hN.ok hN.good (by rw [← hdf]; exact hN.aok.df) (by simp) fun ι2 w2 E2 => ?_
      obtain ⟨q1, q2⟩ := results_ok TB E2.good (hN.aok.tm.congr hN.aok.tin (fun i k hi => E2.agree i hi.1)) (hN.aok.tin.mono E2.rm) hvs
      have hN2 := hN.ext (s' := s1) (a' := a1) hN.ok E2 ⟨hN.aok.tm.congr hN.aok.tin (fun i k hi => E2.agree i hi.1), hN.aok.tin.mono E2.rm, hN.aok.df.congr (D := roomy ι' s1.get) (fun i k hi => E2.agree i hi.1) hN.aok.din, fun d hd => dfIn_mono E2.rm (hN.aok.din d hd)⟩
      refine ⟨_, q1, ι, by rw [conc_zero ι hv, conc_zero ι2 hv], Ext.beneath G hN2.ben _, inD_False hv⟩
    rcases hx with rfl | rfl
    · exact hlv
    · exact hlv
  exact this
end Go.Proofs.Ae
namespace Go.Proofs.Ae
variable {P : Program} {tb : Tb}
def fnR (ρ : Nat → Nat) : Fn → Fn
  | .yield l => .yield (ρ l)
  | f => f
def ren (ρ : Nat → Nat) : Value → Value
  | .pointer (some a) => .pointer (some ⟨ρ a.block, a.off, a.spot⟩)
  | .slice (some a) n cap => .slice (some ⟨ρ a.block, a.off, a.spot⟩) n cap
  | .map (some r) => .map (some (ρ r))
  | .func f first cap => .func (fnR ρ f) (first.map (ren ρ)) (cap.map (ren ρ))
  | .iface t v => .iface t (ren ρ v)
  | .agg cs => .agg (cs.map (ren ρ))
  | .tuple vs => .tuple (vs.map (ren ρ))
  | v => v
theorem conc_ren (ι : Io) (ρ : Nat → Nat) : ∀ v : Value, conc ι (ren ρ v) = conc (fun i => ι (ρ i)) v
  | .pointer (some a) => by simp only [ren, conc, addrC]
  | .slice (some a) n cap => by simp only [ren, conc, addrC, capC]
  | .map (some r) => by simp only [ren, conc]
  | .func f first cap => by
    simp only [ren, conc, Array.map_map]
    congr 1
    · cases f <;> simp only [fnR, fnC]
    · exact Array.map_congr_left fun v hm => conc_ren ι ρ v
    · exact Array.map_congr_left fun v hm => conc_ren ι ρ v
  | .iface t v => by simp only [ren, conc, conc_ren ι ρ v]
  | .agg cs => by
    simp only [ren, conc, Array.map_map]
    congr 1
    exact Array.map_congr_left fun v hm => conc_ren ι ρ v
  | .tuple cs => by
    simp only [ren, conc, Array.map_map]
    congr 1
    exact Array.map_congr_left fun v hm => conc_ren ι ρ v
  | .bool _ | .int _ _ | .float _ _ | .complex _ _ _ | .string _ | .pointer none | .slice none _ _ | .map none | .chan _ | .nilFunc | .nilIface => by simp only [ren, conc]
theorem inD_ren (D : Nat → Nat → Prop) (ρ : Nat → Nat) : ∀ v : Value, inD D (ren ρ v) ↔ inD (fun i k => D (ρ i) k) v
  | .pointer (some a) => by simp only [ren, inD]
  | .slice (some a) n cap => by simp only [ren, inD, needR]
  | .map (some r) => by simp only [ren, inD]
  | .func f first cap => by
    simp only [ren, inD]
    refine and_congr ⟨fun h l e => ?_, fun h l e => ?_⟩ (and_congr ⟨fun h v hv => ?_, fun h v hv => ?_⟩ ⟨fun h v hv => ?_, fun h v hv => ?_⟩)
    · subst e; exact h (ρ l) rfl
    · cases f with
      | yield l' => cases e; exact h l' rfl
      | _ => cases e
    · exact (inD_ren D ρ v).1 (h _ (Array.mem_map.2 ⟨v, hv, rfl⟩))
    · obtain ⟨u, hu, rfl⟩ := Array.mem_map.1 hv; exact (inD_ren D ρ u).2 (h u hu)
    · exact (inD_ren D ρ v).1 (h _ (Array.mem_map.2 ⟨v, hv, rfl⟩))
    · obtain ⟨u, hu, rfl⟩ := Array.mem_map.1 hv; exact (inD_ren D ρ u).2 (h u hu)
  | .iface t v => by simp only [ren, inD]; exact inD_ren D ρ v
  | .agg cs => by
    simp only [ren, inD]
    refine ⟨fun h v hv => ?_, fun h v hv => ?_⟩
    · exact (inD_ren D ρ v).1 (h _ (Array.mem_map.2 ⟨v, hv, rfl⟩))
    · obtain ⟨u, hu, rfl⟩ := Array.mem_map.1 hv; exact (inD_ren D ρ u).2 (h u hu)
  | .tuple cs => by
    simp only [ren, inD]
    refine ⟨fun h v hv => ?_, fun h v hv => ?_⟩
    · exact (inD_ren D ρ v).1 (h _ (Array.mem_map.2 ⟨v, hv, rfl⟩))
    · obtain ⟨u, hu, rfl⟩ := Array.mem_map.1 hv; exact (inD_ren D ρ u).2 (h u hu)
  | .bool _ | .int _ _ | .float _ _ | .complex _ _ _ | .string _ | .pointer none | .slice none _ _ | .map none | .chan _ | .nilFunc | .nilIface => by simp only [ren, inD]
theorem ren_congr {ρ ρ' : Nat → Nat} {D : Nat → Nat → Prop} (h : ∀ i k, D i k → ρ' i = ρ i) : ∀ v : Value, inD D v → ren ρ' v = ren ρ v
  | .pointer (some a), hv => by simp only [inD] at hv; simp only [ren, h _ _ hv]
  | .slice (some a) n cap, hv => by simp only [inD] at hv; simp only [ren, h _ _ hv]
  | .map (some r), hv => by simp only [inD] at hv; simp only [ren, h _ _ hv]
  | .func f first cap, hv => by
    simp only [inD] at hv
    obtain ⟨h1, h2, h3⟩ := hv
    simp only [ren]
    congr 1
    · cases f <;> simp only [fnR]
      rw [h _ _ (h1 _ rfl)]
    · exact Array.map_congr_left fun v hm => ren_congr h v (h2 v hm)
    · exact Array.map_congr_left fun v hm => ren_congr h v (h3 v hm)
  | .iface t v, hv => by simp only [inD] at hv; simp only [ren, ren_congr h v hv]
  | .agg cs, hv => by
    simp only [inD] at hv
    simp only [ren]
    rw [Array.map_congr_left fun v hm => ren_congr h v (hv v hm)]
  | .tuple cs, hv => by
    simp only [inD] at hv
    simp only [ren]
    rw [Array.map_congr_left fun v hm => ren_congr h v (hv v hm)]
  | .bool _, _ | .int _ _, _ | .float _ _, _ | .complex _ _ _, _ | .string _, _ | .pointer none, _ | .slice none _ _, _ | .map none, _ | .chan _, _ | .nilFunc, _ | .nilIface, _ => by simp only [ren]
def AObj.ren (ρ : Nat → Nat) : AObj → AObj
  | .cells c m => .cells (c.map (Ae.ren ρ)) m
  | .map es => .map (es.map fun p => (Ae.ren ρ p.1, Ae.ren ρ p.2))
  | o => o
def AObj.flat : AObj → Bool
  | .cells _ _ => true
  | .map _ => true
  | .dead => true
  | _ => false
theorem AObj.ren_writable (ρ : Nat → Nat) (o : AObj) : (o.ren ρ).writable = o.writable := by
  cases o with
  | cells c m => cases m <;> rfl
  | _ => rfl
theorem AObj.ren_solid (ρ : Nat → Nat) (o : AObj) : (o.ren ρ).solid = o.solid := by
  cases o with
  | cells c m => cases m <;> cases c <;> rfl
  | _ => rfl
theorem AObj.ren_congr {ρ ρ' : Nat → Nat} {D : Nat → Nat → Prop} (h : ∀ i k, D i k → ρ' i = ρ i) (o : AObj) (ho : o.inD D) : o.ren ρ' = o.ren ρ := by
  cases o with
  | cells c m => simp only [AObj.ren]; rw [List.map_congr_left fun v hv => Ae.ren_congr h v (ho v hv)]
  | map es => simp only [AObj.ren]; rw [List.map_congr_left fun p hp => by rw [Ae.ren_congr h _ (ho p hp).1, Ae.ren_congr h _ (ho p hp).2]]
  | _ => rfl
theorem AObj.inD_ren {D : Nat → Nat → Prop} {ρ : Nat → Nat} {o : AObj} (hf : o.flat = true) : (o.ren ρ).inD D ↔ o.inD (fun i k => D (ρ i) k) := by
  cases o with
  | cells c m =>
    refine ⟨fun h v hv => (Ae.inD_ren D ρ v).1 (h _ (List.mem_map.2 ⟨v, hv, rfl⟩)), fun h v hv => ?_⟩
    obtain ⟨u, hu, rfl⟩ := List.mem_map.1 hv
    exact (Ae.inD_ren D ρ u).2 (h u hu)
  | map es =>
    refine ⟨fun h p hp => ?_, fun h p hp => ?_⟩
    · have := h _ (List.mem_map.2 ⟨p, hp, rfl⟩)
      exact ⟨(Ae.inD_ren D ρ p.1).1 this.1, (Ae.inD_ren D ρ p.2).1 this.2⟩
    · obtain ⟨q, hq, rfl⟩ := List.mem_map.1 hp
      exact ⟨(Ae.inD_ren D ρ q.1).2 (h q hq).1, (Ae.inD_ren D ρ q.2).2 (h q hq).2⟩
  | dead => exact ⟨fun _ => trivial, fun _ => trivial⟩
  | _ => cases hf
def isKey : Value → Bool
  | .int _ _ => true
  | .string _ => true
  | _ => false
theorem isKey_ren (ρ : Nat → Nat) : ∀ v : Value, isKey (ren ρ v) = isKey v
  | .pointer (some a) => by simp only [ren, isKey]
  | .slice (some a) n cap => by simp only [ren, isKey]
  | .map (some r) => by simp only [ren, isKey]
  | .func f first cap => by simp only [ren, isKey]
  | .iface t v => by simp only [ren, isKey]
  | .agg cs => by simp only [ren, isKey]
  | .tuple cs => by simp only [ren, isKey]
  | .bool _ | .int _ _ | .float _ _ | .complex _ _ _ | .string _ | .pointer none | .slice none _ _ | .map none | .chan _ | .nilFunc | .nilIface => by simp only [ren, isKey]
theorem keyEq_l {a b : Value} (h : isKey a = false) : keyEq a b = none := by
  cases a <;> first | rfl | (simp [isKey] at h)
theorem keyEq_r {a b : Value} (h : isKey b = false) : keyEq a b = none := by
  cases b <;> first | (simp [isKey] at h; done) | (cases a <;> rfl)
theorem ren_key {ρ : Nat → Nat} {v : Value} (h : isKey v = true) : ren ρ v = v := by
  cases v <;> first | (simp [isKey] at h; done) | simp only [ren]
theorem keyEq_ren (ρ : Nat → Nat) (a b : Value) : keyEq (ren ρ a) (ren ρ b) = keyEq a b := by
  cases ha : isKey a with
  | false => rw [keyEq_l ha, keyEq_l (by rw [isKey_ren, ha])]
  | true =>
    cases hb : isKey b with
    | false => rw [keyEq_r hb, keyEq_r (by rw [isKey_ren, hb])]
    | true => rw [ren_key ha, ren_key hb]
theorem ObjOk.ren {ι : Io} {w : World} {L : Loc} {ρ : Nat → Nat} {o : AObj} (hf : o.flat = true) : ObjOk tb ι w L (o.ren ρ) ↔ ObjOk tb (fun i => ι (ρ i)) w L o := by
  cases o with
  | cells c m =>
    have e : (c.map (Ae.ren ρ)).map (conc ι) = c.map (conc (fun i => ι (ρ i))) := by
      rw [List.map_map]; exact List.map_congr_left fun v _ => conc_ren ι ρ v
    cases m with
    | exact => simp only [AObj.ren, ObjOk, e, List.length_map]
    | grow => simp only [AObj.ren, ObjOk, e, List.length_map]
    | ro =>
      refine ⟨fun h j v hj => ?_, fun h j v hj => ?_⟩
      · have := h j (Ae.ren ρ v) (by rw [List.getElem?_map, hj]; rfl)
        rw [this, conc_ren]
      · rw [List.getElem?_map] at hj
        cases hc : c[j]? with
        | none => rw [hc] at hj; cases hj
        | some u =>
          rw [hc] at hj
          cases hj
          rw [h j u hc, conc_ren]
  | map es =>
    have e : (es.map fun p => (Ae.ren ρ p.1, Ae.ren ρ p.2)).map (pairC ι) = es.map (pairC (fun i => ι (ρ i))) := by
      rw [List.map_map]; exact List.map_congr_left fun p _ => by simp only [Function.comp, pairC, conc_ren]
    have k : KeysOk (es.map fun p => (Ae.ren ρ p.1, Ae.ren ρ p.2)) ↔ KeysOk es := by
      unfold KeysOk
      rw [List.pairwise_map]
      simp only [keyEq_ren]
    simp only [AObj.ren, ObjOk, e, k]
  | dead => exact ⟨fun _ => trivial, fun _ => trivial⟩
  | _ => cases hf
structure Fr (tb : Tb) (t u s s' : St) (M : List Nat) (ρ ρ' τ : Nat → Nat) : Prop where
  copy : ∀ i o, t.get i = some o → s.get (ρ i) = some (o.ren ρ)
  inj : ∀ i j, hdom u.get i → hdom u.get j → ρ' i = ρ' j → i = j
  same : ∀ i, hdom t.get i → ρ' i = ρ i
  new : ∀ i, hdom u.get i → ¬ hdom t.get i → s.next ≤ ρ' i ∧ τ (ρ' i) = i
  dom : ∀ i, hdom t.get i → hdom u.get i
  flatT : ∀ i o, t.get i = some o → o.flat = true
  flatU : ∀ i o, u.get i = some o → o.flat = true
  out : ∀ i o, u.get i = some o → s'.get (ρ' i) = some (o.ren ρ')
  rest : ∀ j, (∀ i, hdom u.get i → ρ' i ≠ j) → s'.get j = s.get j
  mods : ∀ i ∈ M, hdom t.get i → ρ i ∈ s'.mods
  ev : s.Ok → Ev s s'
  gl : ∀ i, tb.gl i = true → ρ i = i
theorem CSem.frame {f : FuncId} {args : List Value} {t t' u s s' : St} {v : Value} {ρ ρ' τ : Nat → Nat} (h : CSem P tb f args t v t') (ht : Part tb t) (hsub : ∀ i o, u.get i = some o → t'.get i = some o)
    (hcl : ∀ i o, u.get i = some o → o.inD (fun i _ => hdom u.get i)) (X : Fr tb t u s s' t'.mods ρ ρ' τ) (hargs : ∀ x ∈ args, inD (fun i _ => hdom t.get i) x) (hv : inD (fun i _ => hdom u.get i) v) :
    CSem P tb f (args.map (ren ρ)) s (ren ρ' v) s' := by
  obtain ⟨h1, h2, h3⟩ := h
  have hev := h1 ht.ok
  refine ⟨X.ev, h2, fun F ι w hok G hin hF => ?_⟩
  obtain ⟨ιt, hιt⟩ : ∃ ιt : Io, ιt = fun i => ι (ρ i) := ⟨_, rfl⟩
  have injT : ∀ i j, hdom t.get i → hdom t.get j → ρ i = ρ j → i = j := fun i j hi hj e => X.inj i j (X.dom i hi) (X.dom j hj) (by rw [X.same i hi, X.same j hj, e])
  have Gt : Good tb ιt t.get w := by
    refine ⟨fun i o hg => ?_, fun i o j o' hg hg' hw hs hne => ?_, fun i o hg => ?_, fun i hi => ⟨ht.glob i hi, ?_⟩⟩
    · rw [hιt]; exact (ObjOk.ren (X.flatT i o hg)).1 (G.obj _ _ (X.copy i o hg))
    · rw [hιt]
      exact G.apart _ _ _ _ (X.copy i o hg) (X.copy j o' hg') (by rw [AObj.ren_writable, hw]) (by rw [AObj.ren_solid, hs]) (fun e => hne (injT j i (hdom_of hg') (hdom_of hg) e))
    · have := (AObj.inD_ren (X.flatT i o hg)).1 (G.closed _ _ (X.copy i o hg))
      refine AObj.inD_mono (fun a r (hh : roomy ι s.get (ρ a) r ∧ hdom t.get a) => ⟨hh.2, ?_⟩) (AObj.inD_and this (ht.closed i o hg))
      rw [hιt]; exact hh.1.2
    · rw [hιt]; simp only [X.gl i hi]; exact (G.glob i hi).2
  have hargsT : ∀ x ∈ args, inD (roomy ιt t.get) x := fun x hx => by
    have := (inD_ren _ ρ x).1 (hin (ren ρ x) (List.mem_map.2 ⟨x, hx, rfl⟩))
    refine inD_mono (fun a r (hh : roomy ι s.get (ρ a) r ∧ hdom t.get a) => ⟨hh.2, ?_⟩) x (inD_and x this (hargs x hx))
    rw [hιt]; exact hh.1.2
  have hcall := h3 F ιt w ht.ok Gt hargsT hF
  have hconc : (args.map (conc ιt)) = ((args.map (ren ρ)).map (conc ι)) := by
    rw [List.map_map]; exact List.map_congr_left fun x _ => by rw [Function.comp, conc_ren, hιt]
  rw [hconc] at hcall
  refine hcall.mono fun e w' ⟨ιt', k1, E, k3⟩ => ?_
  have hlt : ∀ i, hdom t.get i → ρ i < s.next := fun i hi => by
    obtain ⟨o, ho⟩ := get_of_hdom hi
    exact hok _ (hdom_of (X.copy i o ho))
  obtain ⟨ι', hι'⟩ : ∃ ι' : Io, ι' = fun j => if j < s.next then ι j else ιt' (τ j) := ⟨_, rfl⟩
  have hold : ∀ j, hdom s.get j → ι' j = ι j := fun j hj => by rw [hι']; exact if_pos (hok j hj)
  have hnew : ∀ i, hdom u.get i → ι' (ρ' i) = ιt' i := fun i hi => by
    by_cases hd : hdom t.get i
    · rw [X.same i hd, hι', E.agree i hd, hιt]; exact if_pos (hlt i hd)
    · obtain ⟨h5, h6⟩ := X.new i hi hd
      rw [hι']
      simp only [if_neg (Nat.not_lt.2 h5), h6]
  have hspl : ∀ j o, s'.get j = some o → (∃ i oi, u.get i = some oi ∧ ρ' i = j ∧ o = oi.ren ρ') ∨ ((∀ i, hdom u.get i → ρ' i ≠ j) ∧ s.get j = some o) := fun j o hg => by
    by_cases hx : ∃ i, hdom u.get i ∧ ρ' i = j
    · obtain ⟨i, hi, rfl⟩ := hx
      obtain ⟨oi, hoi⟩ := get_of_hdom hi
      have := X.out i oi hoi
      rw [hg] at this
      exact .inl ⟨i, oi, hoi, rfl, by cases this; rfl⟩
    · have hn : ∀ i, hdom u.get i → ρ' i ≠ j := fun i hi e => hx ⟨i, hi, e⟩
      exact .inr ⟨hn, by rw [← X.rest j hn]; exact hg⟩
  have hheap : ∀ j o, (∀ i, hdom u.get i → ρ' i ≠ j) → s.get j = some o → o.solid = true → w'.heap[(ι j).block]? = w.heap[(ι j).block]? := fun j o hn hg hs => by
    refine E.frame _ ((G.obj j o hg).lt hs) fun i hi oi hoi hw e => ?_
    have hne : j ≠ ρ i := fun e' => hn i (X.dom i (hdom_of hoi)) (by rw [X.same i (hdom_of hoi), e'])
    refine G.apart (ρ i) _ j o (X.copy i oi hoi) hg (by rw [AObj.ren_writable, hw]) hs hne ?_
    rw [hιt] at e; exact e.symm
  have hsep : ∀ i o1 j o2, u.get i = some o1 → (∀ i, hdom u.get i → ρ' i ≠ j) → s.get j = some o2 → o1.solid = true → o2.solid = true → (o1.writable = true ∨ o2.writable = true) → (ι j).block ≠ (ιt' i).block := by
    intro i o1 j o2 hu hn hg hs1 hs2 hw
    by_cases hd : hdom t.get i
    · obtain ⟨ot, hot⟩ := get_of_hdom hd
      have hne : j ≠ ρ i := fun e' => hn i (X.dom i hd) (by rw [X.same i hd, e'])
      have hcp := X.copy i ot hot
      have hb : (ιt' i).block = (ι (ρ i)).block := by rw [E.agree i hd, hιt]
      have key : ot.writable = true ∨ ot = o1 := by
        cases hwt : ot.writable with
        | true => exact .inl rfl
        | false =>
          have := E.stay i ot hot hwt
          rw [hsub i o1 hu] at this
          exact .inr (by cases this; rfl)
      rw [hb]
      rcases key with hwt | rfl
      · exact G.apart (ρ i) _ j o2 hcp hg (by rw [AObj.ren_writable, hwt]) hs2 hne
      · rcases hw with hw | hw
        · exact G.apart (ρ i) _ j o2 hcp hg (by rw [AObj.ren_writable, hw]) hs2 hne
        · exact (G.apart j o2 (ρ i) _ hg hcp hw (by rw [AObj.ren_solid, hs1]) hne.symm).symm
    · rcases E.fresh i o1 hd (hsub i o1 hu) hs1 with hb | ⟨B, oB, hB, hgB, hwB, hbB⟩
      · have := (G.obj j o2 hg).lt hs2
        omega
      · have hne : j ≠ ρ B := fun e' => hn B (X.dom B (hdom_of hgB)) (by rw [X.same B (hdom_of hgB), e'])
        rw [← hbB, hιt]
        exact G.apart (ρ B) _ j o2 (X.copy B oB hgB) hg (by rw [AObj.ren_writable, hwB]) hs2 hne
  have hdm : ∀ j, hdom s.get j → hdom s'.get j := fun j hj => (X.ev hok).dom j hj
  have hroom : ∀ i k, roomy ιt' u.get i k → roomy ι' s'.get (ρ' i) k := fun i k hh => by
    obtain ⟨o, ho⟩ := get_of_hdom hh.1
    exact ⟨hdom_of (X.out i o ho), by rw [hnew i hh.1]; exact hh.2⟩
  have hclu : ∀ i o, u.get i = some o → o.inD (roomy ιt' u.get) := fun i o hu => AObj.inD_mono (fun a r (hh : roomy ιt' t'.get a r ∧ hdom u.get a) => ⟨hh.2, hh.1.2⟩) (AObj.inD_and (E.good.closed i o (hsub i o hu)) (hcl i o hu))
  refine ⟨ι', ?_, ⟨⟨fun j o hg => ?_, fun j1 o1 j2 o2 hg1 hg2 hw hs hne => ?_, fun j o hg => ?_, fun j hj => ⟨hdm j (G.glob j hj).1, by rw [hold j (G.glob j hj).1]; exact (G.glob j hj).2⟩⟩, fun j hj => hold j hj, hdm, fun j o hg hw => ?_, E.size, E.os, E.tape, E.output, fun b hb hM => ?_, fun j o hn hg hs => ?_⟩, ?_⟩
  · rw [k1, conc_ren]
    have := conc_congr (ι := ιt') (ι' := fun i => ι' (ρ' i)) (D := fun i _ => hdom u.get i) (fun i _ hi => hnew i hi) v hv
    rw [this]
  · rcases hspl j o hg with ⟨i, oi, hu, rfl, rfl⟩ | ⟨hn, hgs⟩
    · rw [hnew i (hdom_of hu)]
      refine (ObjOk.ren (X.flatU i oi hu)).2 ?_
      exact (E.good.obj i oi (hsub i oi hu)).mono (ι' := fun i => ι' (ρ' i)) (D := fun i _ => hdom u.get i) (fun a _ ha => hnew a ha) (hcl i oi hu) (fun _ => rfl)
    · rw [hold j (hdom_of hgs)]
      exact (G.obj j o hgs).mono (ι' := ι') (D := roomy ι s.get) (fun a _ ha => hold a ha.1) (G.closed j o hgs) (fun hs => hheap j o hn hgs hs)
  · rcases hspl j1 o1 hg1 with ⟨i1, oi1, hu1, rfl, rfl⟩ | ⟨hn1, hgs1⟩
    · rcases hspl j2 o2 hg2 with ⟨i2, oi2, hu2, rfl, rfl⟩ | ⟨hn2, hgs2⟩
      · rw [hnew i1 (hdom_of hu1), hnew i2 (hdom_of hu2)]
        exact E.good.apart i1 oi1 i2 oi2 (hsub i1 oi1 hu1) (hsub i2 oi2 hu2) (by rw [← AObj.ren_writable ρ', hw]) (by rw [← AObj.ren_solid ρ', hs]) (fun e => hne (by rw [e]))
      · rw [hnew i1 (hdom_of hu1), hold j2 (hdom_of hgs2)]
        have hw1 : oi1.writable = true := by rw [← AObj.ren_writable ρ', hw]
        exact hsep i1 oi1 j2 o2 hu1 hn2 hgs2 (solid_of_writable hw1) hs (.inl hw1)
    · rcases hspl j2 o2 hg2 with ⟨i2, oi2, hu2, rfl, rfl⟩ | ⟨hn2, hgs2⟩
      · rw [hnew i2 (hdom_of hu2), hold j1 (hdom_of hgs1)]
        exact (hsep i2 oi2 j1 o1 hu2 hn1 hgs1 (by rw [← AObj.ren_solid ρ', hs]) (solid_of_writable hw) (.inr hw)).symm
      · rw [hold j1 (hdom_of hgs1), hold j2 (hdom_of hgs2)]
        exact G.apart j1 o1 j2 o2 hgs1 hgs2 hw hs hne
  · rcases hspl j o hg with ⟨i, oi, hu, rfl, rfl⟩ | ⟨hn, hgs⟩
    · exact (AObj.inD_ren (X.flatU i oi hu)).2 (AObj.inD_mono (fun a r hh => hroom a r hh) (hclu i oi hu))
    · exact AObj.inD_mono (fun a r hh => ⟨hdm a hh.1, by rw [hold a hh.1]; exact hh.2⟩) (G.closed j o hgs)
  · by_cases hx : ∃ i, hdom u.get i ∧ ρ' i = j
    · obtain ⟨i, hi, rfl⟩ := hx
      by_cases hd : hdom t.get i
      · obtain ⟨ot, hot⟩ := get_of_hdom hd
        have hcp := X.copy i ot hot
        rw [← X.same i hd, hg] at hcp
        cases hcp
        rw [AObj.ren_writable] at hw
        obtain ⟨ou, hou⟩ := get_of_hdom hi
        have hst := E.stay i ot hot hw
        rw [hsub i ou hou] at hst
        cases hst
        rw [X.out i _ hou]
        congr 1
        exact AObj.ren_congr (D := fun i _ => hdom t.get i) (fun a _ ha => X.same a ha) _ (ht.closed i _ hot)
      · have := (X.new i hi hd).1
        have := hok _ (hdom_of hg)
        omega
    · rw [X.rest j (fun i hi e => hx ⟨i, hi, e⟩)]; exact hg
  · refine E.frame b hb fun i hi oi hoi hw => ?_
    have := hM (ρ i) (X.mods i hi (hdom_of hoi)) _ (X.copy i oi hoi) (by rw [AObj.ren_writable, hw])
    rw [hιt]; exact this
  · rcases hspl j o hg with ⟨i, oi, hu, rfl, rfl⟩ | ⟨hn', hgs⟩
    · have hd : ¬ hdom t.get i := fun hd => by
        obtain ⟨ot, hot⟩ := get_of_hdom hd
        exact hn (by rw [X.same i hd]; exact hdom_of (X.copy i ot hot))
      rw [hnew i (hdom_of hu)]
      rcases E.fresh i oi hd (hsub i oi hu) (by rw [← AObj.ren_solid ρ', hs]) with hb | ⟨B, oB, hB, hgB, hwB, hbB⟩
      · exact .inl hb
      · refine .inr ⟨ρ B, _, X.mods B hB (hdom_of hgB), X.copy B oB hgB, by rw [AObj.ren_writable, hwB], ?_⟩
        rw [← hbB, hιt]
    · exact absurd (hdom_of hgs) hn
  · refine (inD_ren _ ρ' v).2 (inD_mono (fun a r hh => hroom a r hh) v ?_)
    refine inD_mono (fun a r (hh : roomy ιt' t'.get a r ∧ hdom u.get a) => ⟨hh.2, hh.1.2⟩) v (inD_and v k3 hv)
end Go.Proofs.Ae
namespace Go.Proofs.Ae
variable {P : Program} {tb : Tb}
theorem inB_spec (d : Nat → Bool) : ∀ (n : Nat) (v : Value), inB d n v = true → inD (fun i _ => d i = true) v
  | 0, v, h => by cases h
  | n + 1, v, h => by
    cases v with
    | pointer a => cases a with
      | none => simp [inD]
      | some a => simp only [inB] at h; simpa only [inD] using h
    | slice a k c => cases a with
      | none => simp [inD]
      | some a => simp only [inB] at h; simpa only [inD] using h
    | map a => cases a with
      | none => simp [inD]
      | some a => simp only [inB] at h; simpa only [inD] using h
    | func f x y =>
      simp only [inB, Bool.and_eq_true, List.all_eq_true] at h
      obtain ⟨h1, h2, h3⟩ := h
      simp only [inD]
      refine ⟨fun l e => ?_, fun w hw => inB_spec d n w (h2 w (by simpa using hw)), fun w hw => inB_spec d n w (h3 w (by simpa using hw))⟩
      subst e; exact h1
    | iface t w => simp only [inD]; exact inB_spec d n w h
    | agg cs =>
      have h' : cs.toList.all (inB d n) = true := h
      rw [List.all_eq_true] at h'
      simp only [inD]
      exact fun w hw => inB_spec d n w (h' w (by simpa using hw))
    | tuple cs =>
      have h' : cs.toList.all (inB d n) = true := h
      rw [List.all_eq_true] at h'
      simp only [inD]
      exact fun w hw => inB_spec d n w (h' w (by simpa using hw))
    | _ => simp [inD]
theorem objB_spec (d : Nat → Bool) (o : AObj) (h : objB d o = true) : o.inD (fun i _ => d i = true) := by
  cases o with
  | cells c m =>
    have h' : c.all (inB d 8) = true := h
    rw [List.all_eq_true] at h'
    exact fun v hv => inB_spec d 8 v (h' v hv)
  | map es =>
    have h' : es.all (fun p => inB d 8 p.1 && inB d 8 p.2) = true := h
    rw [List.all_eq_true] at h'
    intro p hp
    have := h' p hp
    rw [Bool.and_eq_true] at this
    exact ⟨inB_spec d 8 _ this.1, inB_spec d 8 _ this.2⟩
  | dead => trivial
  | _ => cases h
theorem objsAt_spec {s : St} : ∀ {ids : List Nat} {objs : List AObj}, objsAt s ids = some objs → ids.length = objs.length ∧ ∀ (j i : Nat) (o : AObj), ids[j]? = some i → objs[j]? = some o → s.get i = some o
  | [], objs, h => by cases h; exact ⟨rfl, fun j i o h => by simp at h⟩
  | i :: l, objs, h => by
    unfold objsAt at h
    split at h
    · rename_i o ho
      split at h
      · rename_i r hr
        cases h
        obtain ⟨h1, h2⟩ := objsAt_spec hr
        refine ⟨by simp [h1], fun j i' o' hj hj' => ?_⟩
        cases j with
        | zero => simp at hj hj'; subst hj; subst hj'; exact ho
        | succ j => exact h2 j i' o' (by simpa using hj) (by simpa using hj')
      · cases h
    · cases h
theorem domAll_spec {s : St} : ∀ {l : List Nat}, domAll s l = true → ∀ i ∈ l, hdom s.get i
  | [], _ => by simp
  | j :: l, h => by
    unfold domAll at h
    split at h
    · rename_i o ho
      intro i hi
      rcases List.mem_cons.1 hi with rfl | hi
      · exact hdom_of ho
      · exact domAll_spec h i hi
    · cases h
theorem tmsAt_len (tm : Tr Value) : ∀ N, (tmsAt tm N).length = N
  | 0 => rfl
  | N + 1 => by simp [tmsAt, tmsAt_len tm N]
theorem tmsAt_get (tm : Tr Value) : ∀ N k, k < N → (tmsAt tm N).getD k undefA = tmA tm k
  | N + 1, k, h => by
    rw [tmsAt, List.getD_eq_getElem?_getD]
    by_cases e : k < N
    · rw [List.getElem?_append_left (by rw [tmsAt_len]; exact e), ← List.getD_eq_getElem?_getD, tmsAt_get tm N k e]
    · have : k = N := by omega
      subst this
      rw [List.getElem?_append_right (by rw [tmsAt_len]; omega), tmsAt_len]; simp
theorem litTm_get : ∀ (l : List Value) (j : Nat) (t : Tr Value) (k : Nat), tmA (litTm j l t) k = if j ≤ k ∧ k < j + l.length then l.getD (k - j) undefA else tmA t k
  | [], j, t, k => by rw [if_neg (by simp)]; rfl
  | v :: l, j, t, k => by
    rw [litTm, litTm_get l (j + 1) (t.set j v) k, tmA_set]
    by_cases h1 : k = j
    · subst h1; rw [if_neg (by omega), if_pos rfl, if_pos (by simp)]; simp
    · rw [if_neg h1]
      by_cases h2 : j + 1 ≤ k ∧ k < j + 1 + l.length
      · rw [if_pos h2, if_pos (by simp; omega), show k - j = (k - (j + 1)) + 1 from by omega]; simp
      · rw [if_neg h2, if_neg (by simp; omega)]
theorem litT_get : ∀ (ids : List Nat) (objs : List AObj) (t : Tr AObj) (i : Nat) (o : AObj), (litT ids objs t).get i = some o → (∃ j : Nat, ids[j]? = some i ∧ objs[j]? = some o) ∨ t.get i = some o
  | [], [], t, i, o, h => .inr h
  | [], _ :: _, t, i, o, h => .inr h
  | j :: l, [], t, i, o, h => .inr h
  | j :: l, o1 :: r, t, i, o, h => by
    rcases litT_get l r (t.set j o1) i o h with ⟨k, h1, h2⟩ | h
    · exact .inl ⟨k + 1, by simpa using h1, by simpa using h2⟩
    · by_cases e : i = j
      · subst e; rw [Tr.get_set_self] at h; cases h; exact .inl ⟨0, rfl, rfl⟩
      · rw [Tr.get_set_ne _ _ _ _ e] at h; exact .inr h
theorem deadT_get : ∀ (l : List Nat) (t : Tr AObj) (i : Nat) (o : AObj), (deadT l t).get i = some o → (i ∈ l ∧ o = .dead) ∨ t.get i = some o
  | [], t, i, o, h => .inr h
  | j :: l, t, i, o, h => by
    rcases deadT_get l (t.set j .dead) i o h with ⟨h1, h2⟩ | h
    · exact .inl ⟨by simp [h1], h2⟩
    · by_cases e : i = j
      · subst e; rw [Tr.get_set_self] at h; cases h; exact .inl ⟨by simp, rfl⟩
      · rw [Tr.get_set_ne _ _ _ _ e] at h; exact .inr h
theorem MB.seg (TB : TbOk P tb) (HN : NatOk P tb) {n k N nx : Nat} {c : Code} {a : AA} {s : St} {Q : AX → AA → St → Prop} {ids deads gls : List Nat} {objs : List AObj} {tms : List Value} {fid : FuncId}
    (h : segOut ids deads N (Ae.lead tb n k c a s) = some (objs, tms, nx)) (hk : litOk ids objs deads nx tms gls = true) (hg : ∀ i, tb.gl i = true → i ∈ gls)
    (z : MB P tb N (dropN k c) ⟨litTm 0 tms .nil, [], false, fid⟩ (litSt ids objs deads nx) Q) : MB P tb N c a s Q := by
  cases hl : Ae.lead tb n k c a s with
  | none => rw [hl] at h; cases h
  | some p =>
    obtain ⟨z1, a', s'⟩ := p
    rw [hl] at h
    have hz := lead_code hl
    subst hz
    change (match objsAt s' ids with | some r => bif domAll s' deads && (dfNil a'.df && (!a'.rnd)) then some (r, tmsAt a'.tm N, s'.next) else none | none => none) = _ at h
    split at h
    · rename_i r hr
      obtain ⟨hc, h⟩ := bif_some h
      cases h
      simp only [Bool.and_eq_true] at hc
      obtain ⟨hd, hdf, hrn⟩ := hc
      have hdf' : a'.df = [] := by
        cases hdd : a'.df with
        | nil => rfl
        | cons x l => rw [hdd] at hdf; cases hdf
      have hrn' : a'.rnd = false := by simpa using hrn
      obtain ⟨hlen, hobj⟩ := objsAt_spec hr
      have hdm := domAll_spec hd
      unfold litOk at hk
      simp only [Bool.and_eq_true, List.all_eq_true] at hk
      obtain ⟨_, ko, kt, kg, ki, kd⟩ := hk
      obtain ⟨t, ht⟩ : ∃ t, t = litSt ids objs deads s'.next := ⟨_, rfl⟩
      rw [← ht] at z ko kt kg
      have dd : ∀ i, (match t.get i with | some _ => true | none => false) = true → hdom t.get i := fun i hi => by
        unfold hdom
        cases hgi : t.get i with
        | none => rw [hgi] at hi; cases hi
        | some o => simp
      have hget : ∀ i o, t.get i = some o → (∃ j : Nat, ids[j]? = some i ∧ objs[j]? = some o) ∨ (i ∈ deads ∧ o = .dead) := fun i o hi => by
        rw [ht] at hi
        rcases litT_get ids objs _ i o hi with h1 | h1
        · exact .inl h1
        · rcases deadT_get deads _ i o h1 with h2 | h2
          · exact .inr h2
          · cases h2
      refine MB.lead TB HN hl (MB.weak z hdf' rfl hrn'.symm (fun k hk => ?_) (fun k hk => ?_) (fun i o hi => ?_) (fun i o hi => ?_) (fun k => ?_) (fun i hi => ?_) (fun i hi => dd i (kg i (hg i hi))))
      · change tmA (litTm 0 (tmsAt a'.tm N) .nil) k = _
        rw [litTm_get, tmsAt_len, if_pos (by omega), Nat.sub_zero, tmsAt_get _ _ _ hk]
      · change tmA (litTm 0 (tmsAt a'.tm N) .nil) k = _
        rw [litTm_get, tmsAt_len, if_neg (by omega)]; rfl
      · rcases hget i o hi with ⟨j, h1, h2⟩ | ⟨h1, h2⟩
        · exact .inl (hobj j i o h1 h2)
        · exact .inr ⟨h2, hdm i h1⟩
      · rcases hget i o hi with ⟨j, h1, h2⟩ | ⟨h1, h2⟩
        · exact AObj.inD_mono (fun i _ hi => dd i hi) (objB_spec _ o (ko o (List.mem_of_getElem? h2)))
        · subst h2; trivial
      · change inD _ (tmA (litTm 0 (tmsAt a'.tm N) .nil) k)
        rw [litTm_get]
        split
        · rename_i hkk
          refine inD_mono (fun i _ hi => dd i hi) _ (inB_spec _ 8 _ (kt _ ?_))
          rw [List.getD_eq_getElem?_getD, List.getElem?_eq_getElem (by omega)]
          exact List.getElem_mem _
        · exact inD_undef _
      · cases hgi : t.get i with
        | none => exact absurd hgi hi
        | some o =>
          have hnx : t.next = s'.next := by rw [ht]; rfl
          rw [hnx]
          rcases hget i o hgi with ⟨j, h1, h2⟩ | ⟨h1, h2⟩
          · exact Nat.le_of_ble_eq_true (ki i (List.mem_of_getElem? h1))
          · exact Nat.le_of_ble_eq_true (kd i h1)
    · cases h
end Go.Proofs.Ae
namespace Go.Proofs.Ae
variable {P : Program} {tb : Tb}
theorem lit_part {ids deads gls : List Nat} {objs : List AObj} {nx : Nat} {tms : List Value} (hk : litOk ids objs deads nx tms gls = true) (hg : ∀ i, tb.gl i = true → i ∈ gls) : Part tb (litSt ids objs deads nx) := by
  unfold litOk at hk
  simp only [Bool.and_eq_true, List.all_eq_true] at hk
  obtain ⟨_, ko, kt, kg, ki, kd⟩ := hk
  obtain ⟨t, ht⟩ : ∃ t, t = litSt ids objs deads nx := ⟨_, rfl⟩
  rw [← ht] at ko kt kg ⊢
  have dd : ∀ i, (match t.get i with | some _ => true | none => false) = true → hdom t.get i := fun i hi => by
    unfold hdom
    cases hgi : t.get i with
    | none => rw [hgi] at hi; cases hi
    | some o => simp
  have hget : ∀ i o, t.get i = some o → (∃ j : Nat, ids[j]? = some i ∧ objs[j]? = some o) ∨ (i ∈ deads ∧ o = .dead) := fun i o hi => by
    rw [ht] at hi
    rcases litT_get ids objs _ i o hi with h1 | h1
    · exact .inl h1
    · rcases deadT_get deads _ i o h1 with h2 | h2
      · exact .inr h2
      · cases h2
  refine ⟨fun i hi => ?_, fun i o hi => ?_, fun i hi => dd i (kg i (hg i hi))⟩
  · cases hgi : t.get i with
    | none => exact absurd hgi hi
    | some o =>
      have hnx : t.next = nx := by rw [ht]; rfl
      rw [hnx]
      rcases hget i o hgi with ⟨j, h1, h2⟩ | ⟨h1, h2⟩
      · exact Nat.le_of_ble_eq_true (ki i (List.mem_of_getElem? h1))
      · exact Nat.le_of_ble_eq_true (kd i h1)
  · rcases hget i o hi with ⟨j, h1, h2⟩ | ⟨h1, h2⟩
    · exact AObj.inD_mono (fun i _ hi => dd i hi) (objB_spec _ o (ko o (List.mem_of_getElem? h2)))
    · subst h2; trivial
theorem lit_get {ids deads : List Nat} {objs : List AObj} {nx : Nat} {i : Nat} {o : AObj} (h : (litSt ids objs deads nx).get i = some o) : (∃ j : Nat, ids[j]? = some i ∧ objs[j]? = some o) ∨ (i ∈ deads ∧ o = .dead) := by
  rcases litT_get ids objs _ i o h with h1 | h1
  · exact .inl h1
  · rcases deadT_get deads _ i o h1 with h2 | h2
    · exact .inr h2
    · cases h2
end Go.Proofs.Ae
