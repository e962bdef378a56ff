/- A part of the proof that the program's function answers true: lemmas (Sim20 to Sim27) on carrying the program out over names of memory objects. No condition. -/
import Derived.Test.YtmchinghfbdlkaaGreatDoorAe03
import Derived.RangeFuncLeaves
set_option linter.unusedVariables false
set_option linter.unusedSimpArgs false
namespace Go.Proofs.Ae
variable {P : Program} {tb : Tb}
def DfOk (ι : Io) : ADef → Deferred → Prop
  | .call f args, d => ∃ cap, d.target = .fn (.func f) cap ∧ d.args ++ cap = (args.map (conc ι)).toArray
  | .mark id, d => d.target = .collected (ι id).block
def dfIn (D : Nat → Nat → Prop) : ADef → Prop
  | .call _ args => ∀ x ∈ args, inD D x
  | .mark id => D id 0
def DfsOk (ι : Io) : List ADef → List Deferred → Prop
  | [], [] => True
  | d :: l, x :: xs => DfOk ι d x ∧ DfsOk ι l xs
  | _, _ => False
theorem dfIn_mono {D D' : Nat → Nat → Prop} (h : ∀ i k, D i k → D' i k) {d : ADef} (hd : dfIn D d) : dfIn D' d := by
  cases d with
  | call f args => exact fun x hx => inD_mono h x (hd x hx)
  | mark id => exact h _ _ hd
theorem DfOk.congr {ι ι' : Io} {D : Nat → Nat → Prop} (h : ∀ i k, D i k → ι' i = ι i) {d : ADef} {x : Deferred} (hd : dfIn D d) (hx : DfOk ι d x) : DfOk ι' d x := by
  cases d with
  | call f args =>
    obtain ⟨cap, h1, h2⟩ := hx
    exact ⟨cap, h1, by rw [h2, map_conc_congr h hd]⟩
  | mark id =>
    change x.target = .collected (ι' id).block
    rw [h id 0 hd]; exact hx
theorem DfsOk.congr {ι ι' : Io} {D : Nat → Nat → Prop} (h : ∀ i k, D i k → ι' i = ι i) : ∀ {l : List ADef} {xs : List Deferred}, (∀ d ∈ l, dfIn D d) → DfsOk ι l xs → DfsOk ι' l xs
  | [], [], _, _ => trivial
  | d :: l, x :: xs, hd, hx => ⟨DfOk.congr h (hd d (by simp)) hx.1, DfsOk.congr h (fun e he => hd e (by simp [he])) hx.2⟩
  | [], _ :: _, _, hx => hx.elim
  | _ :: _, [], _, hx => hx.elim
structure AOk (ι : Io) (g : Hp) (N : Nat) (a : AA) (c : Act) : Prop where
  tm : TmOk ι N a.tm c.tmps
  tin : TmIn (roomy ι g) a.tm
  df : DfsOk ι a.df c.defers
  din : ∀ d ∈ a.df, dfIn (roomy ι g) d
theorem AOk.ext {ι ι' : Io} {g g' : Hp} {w w' : World} {M : List Nat} {N : Nat} {a : AA} {c : Act} (h : AOk ι g N a c) (E : Ext tb ι g w ι' g' w' M) : AOk ι' g' N a c :=
  ⟨h.tm.congr h.tin (fun i k hi => E.agree i hi.1), h.tin.mono E.rm, h.df.congr (D := roomy ι g) (fun i k hi => E.agree i hi.1) h.din, fun d hd => dfIn_mono E.rm (h.din d hd)⟩
theorem tmA_set (tm : Tr Value) (d : Nat) (v : Value) (t : Nat) : tmA (tm.set d v) t = if t = d then v else tmA tm t := by
  unfold tmA
  by_cases e : t = d
  · subst e; rw [Tr.get_set_self, if_pos rfl]
  · rw [Tr.get_set_ne _ _ _ _ e, if_neg e]
theorem TmOk.set {ι : Io} {N : Nat} {tm : Tr Value} {tmps : Array Value} (h : TmOk ι N tm tmps) {d : Nat} (hd : d < N) (v : Value) : TmOk ι N (tm.set d v) (tmps.setIfInBounds d (conc ι v)) := by
  refine ⟨by simp [h.1], fun t => ?_⟩
  rw [tmA_set]
  by_cases e : t = d
  · subst e
    rw [if_pos rfl]
    simp [Array.getD_eq_getD_getElem?, Array.getElem?_setIfInBounds, h.1, hd]
  · rw [if_neg e, ← h.2 t]
    simp [Array.getD_eq_getD_getElem?, Array.getElem?_setIfInBounds, Ne.symm e]
theorem TmIn.set {D : Nat → Nat → Prop} {tm : Tr Value} (h : TmIn D tm) (d : Nat) {v : Value} (hv : inD D v) : TmIn D (tm.set d v) := fun t => by
  rw [tmA_set]
  by_cases e : t = d
  · rw [if_pos e]; exact hv
  · rw [if_neg e]; exact h t
theorem dst_lt {N : Nat} {d : Nat} (h : dstB N (some d) = true) : d < N := by
  have : d + 1 ≤ N := Nat.le_of_ble_eq_true h
  omega
theorem AOk.put {ι : Io} {g : Hp} {N : Nat} {a : AA} {c : Act} (h : AOk ι g N a c) {dst : Option Tmp} (hd : dstB N dst = true) {v : Value} (hv : inD (roomy ι g) v) : AOk ι g N (a.put dst v) (c.put dst (conc ι v)) := by
  cases dst with
  | none => exact h
  | some d => exact ⟨h.tm.set (dst_lt hd) v, h.tin.set d hv, h.df, h.din⟩
theorem conc_undef (ι : Io) : conc ι undefA = undef := by simp [undefA, undef, conc]
theorem inD_undef (D : Nat → Nat → Prop) : inD D undefA := by simp [undefA, inD]
theorem plainV_ok {v : Value} (h : plainV v = true) : inD (fun _ _ => False) v := by
  unfold plainV at h
  cases v with
  | pointer a => cases a <;> simp [inD] at h ⊢
  | slice a n c => cases a <;> simp [inD] at h ⊢
  | map a => cases a <;> simp [inD] at h ⊢
  | func f a b => simp at h
  | iface t v => cases v <;> simp [inD] at h ⊢
  | agg cs => simp at h; subst h; simp [inD]
  | tuple cs => simp at h; subst h; simp [inD]
  | _ => simp [inD]
theorem ev_ok {ι : Io} {g : Hp} {w : World} (G : Good tb ι g w) {N : Nat} {tm : Tr Value} {c : Act} (ht : TmOk ι N tm c.tmps) (hi : TmIn (roomy ι g) tm) {x : Operand} (hx : operandOk tb.gl x = true) :
    c.eval x = conc ι (evO tm x) ∧ inD (roomy ι g) (evO tm x) := by
  cases x with
  | tmp t => exact ⟨ht.2 t, hi t⟩
  | const v => exact ⟨(conc_zero ι (plainV_ok hx)).symm, inD_False (plainV_ok hx)⟩
  | global i =>
    obtain ⟨h1, h2, h3⟩ := G.glob i hx
    exact ⟨by simp [Act.eval, evO, conc, addrC, h2, h3], by simp only [evO, inD]; exact ⟨h1, Nat.zero_le _⟩⟩
  | func f => exact ⟨by simp [Act.eval, evO, conc, fnC], by simp [evO, inD]⟩
theorem AOk.rho {ι : Io} {g : Hp} {w : World} (G : Good tb ι g w) {N : Nat} {a : AA} {c : Act} (h : AOk ι g N a c) {xs : List Operand} (hx : ∀ x ∈ xs, operandOk tb.gl x = true) : RhoOk ι (roomy ι g) a.tm c.eval xs :=
  fun x hm => ev_ok G h.tm h.tin (hx x hm)
def FOk (rnd : Bool) (F : Fence) : Prop := (∀ f, F.fn f) ∧ F.depth = none ∧ (rnd = false → F.round = none) ∧ F.alive = false
def CEnd (tb : Tb) (ι : Io) (s : St) (w : World) (v : Value) (s' : St) : Ending → World → Prop := fun e w' =>
  ∃ ι', e = .returned (conc ι' v) ∧ Ext tb ι s.get w ι' s'.get w' s'.mods ∧ inD (roomy ι' s'.get) v
def Enters (P : Program) (f : FuncId) : Prop := ∃ fn, P.funcs[f]? = some fn ∧ (fn.name == "runtime.NumGoroutine") = false ∧ fn.body.isSome = true
def CSem (P : Program) (tb : Tb) (f : FuncId) (args : List Value) (s : St) (v : Value) (s' : St) : Prop :=
  (s.Ok → Ev s s') ∧ Enters P f ∧ ∀ F ι w, s.Ok → Good tb ι s.get w → (∀ x ∈ args, inD (roomy ι s.get) x) → FOk true F → CallsIn F 0 P f (args.map (conc ι)).toArray w (CEnd tb ι s w v s')
def RdSem (P : Program) (tb : Tb) (l : Nat) (args : List Value) (s : St) (v : Value) (s' : St) : Prop :=
  (s.Ok → Ev s s') ∧ ∀ F ι w, s.Ok → Good tb ι s.get w → (∀ x ∈ args, inD (roomy ι s.get) x) → FOk true F →
    ∃ f tmps assign body, (Instr.yield (ι l).block (args.map (conc ι)).toArray).run P w = .ok (.round (ι l).block f tmps assign body) w ∧ RoundIn F 0 P (ι l).block f tmps assign body w (CEnd tb ι s w v s')
theorem run_callFunc {f : FuncId} {args : Array Value} (h : Enters P f) (w : World) : (callFunc f args).run P w = .ok (.enter f args) w := by
  obtain ⟨fn, h1, h2, h3⟩ := h
  have h4 : fn.body.isNone = false := by cases hb : fn.body <;> simp_all
  simp only [callFunc, Sem.run_bind, run_program, Result.andThen_ok, h1, h2, h4, Bool.false_eq_true, if_false, Sem.run_pure]
def OSem (P : Program) (tb : Tb) (o : Oper) (rnd : Bool) (tm : Tr Value) (s : St) (v : Value) (ds : List ADef) (s' : St) : Prop :=
  (s.Ok → Ev s s') ∧ ∀ F ι w (c : Act) (K : Act → World → Prop) (Q : Exit → Act → World → Prop), s.Ok → Good tb ι s.get w → RhoOk ι (roomy ι s.get) tm c.eval o.op.operands.toList → FOk rnd F →
    (∀ ι' w' xs, Ext tb ι s.get w ι' s'.get w' s'.mods → inD (roomy ι' s'.get) v → DfsOk ι' ds xs → (∀ d ∈ ds, dfIn (roomy ι' s'.get) d) → K (({ c with defers := xs ++ c.defers } : Act).put o.dst (conc ι' v)) w') →
    o.wpIn F 0 P c w K Q
theorem about_ok {F : Fence} (h : ∀ f, F.fn f) (o : Oper) (w : World) (ρ : Operand → Value) : ∀ f, o.about P w ρ = some f → F.fn f := fun f _ => h f
theorem QOp.eop {o : Oper} {s s' : St} {tm : Tr Value} {v : Value} (h : QOp P tb o s tm s' v) : EOp P tb o s tm s' (.val v) := by
  refine ⟨fun hok => ?_, fun ι w ρ hok G hp => ?_⟩
  · rcases h.1 with rfl | ⟨ob, rfl⟩
    · exact Ev.refl _
    · exact Ev.alloc _ hok.fresh
  · obtain ⟨ι', g', w', h1, h2, h3, h4⟩ := h.2 ι s.get w ρ G (fun _ _ => rfl) hp (fun _ => hok.fresh)
    have hg : g' = s'.get := by
      rcases h4 with ⟨rfl, rfl⟩ | ⟨ob, rfl, rfl⟩
      · rfl
      · rw [St.get_alloc]
    subst hg
    exact ⟨ι', w', _, h1, h2.more (by simp), .inl ⟨v, rfl, rfl, h3⟩⟩
theorem conv_apart {T : Tr TI} {s : St} {a b : TypeId} {x : Value} {r : RO} (hab : Nat.beq a b = false) (h : convA T s (Nat.beq a b) (tyD T (some a)) (tyD T (some b)) x = r) (hr : r ≠ none) :
    ∀ t u, ¬ (tyD T (some a) = .slice t ∧ tyD T (some b) = .slice u) := fun t u ⟨h1, h2⟩ => hr (by
  rw [← h, h1, h2, hab]; rfl)
theorem plain_op (TB : TbOk P tb) {o : Oper} {s s' : St} {tm : Tr Value} {r : AR} (hc : callsB o.op = false) (h : opA tb.ty s tm o.op = some (r, s')) : EOp P tb o s tm s' r := by
  cases he : effB o.op with
  | false =>
    obtain ⟨v, rfl, hq⟩ := quiet_op TB he (fun a b x t u hop => by
      rw [hop] at h he
      exact conv_apart (x := evO tm x) he rfl (by
        intro e
        have h2 : convA tb.ty s (Nat.beq a b) (tyD tb.ty (some a)) (tyD tb.ty (some b)) (evO tm x) = some (r, s') := h
        rw [e] at h2; cases h2) t u) h
    exact hq.eop
  | true =>
    by_cases hcv : ∃ a b x, o.op = .convert a b x ∧ ¬ ∃ t u, tyD tb.ty (some a) = .slice t ∧ tyD tb.ty (some b) = .slice u
    · obtain ⟨a, b, x, hop, hne⟩ := hcv
      have h2 : hConv a b x tb.ty s tm = some (r, s') := by unfold opA at h; rw [hop] at h; exact h
      obtain ⟨v, rfl, hq⟩ := QH.op (o := o) (tm := tm) (conv_q TB s a b (evO tm x) (fun t u ⟨h1, h2⟩ => hne ⟨t, u, h1, h2⟩) (Nat.beq a b)) h2 (by rw [hop]; simp [readsA]) fun ι d ρ hp => by
        rw [hop] at hp
        obtain ⟨h1, h2⟩ := hp x (by simp [Op.operands])
        exact ⟨h2, by simp [execOp, hop, h1]⟩
      exact hq.eop
    · exact eff_op TB he hc h fun a b x hop => Classical.byContradiction fun hn => hcv ⟨a, b, x, hop, hn⟩
theorem callV_some {s : St} {args : List Value} {f : Value} {r : AR} {s' : St} (h : callV s args f = some (r, s')) :
    s' = s ∧ ((∃ g first cap, f = .func (.func g) first cap ∧ r = .enter g (first.toList ++ args ++ cap.toList)) ∨ (∃ l first cap, f = .func (.yield l) first cap ∧ first.toList = [] ∧ cap.toList = [] ∧ r = .round l args)) := by
  unfold callV at h
  split at h
  · cases h; exact ⟨rfl, .inl ⟨_, _, _, rfl, rfl⟩⟩
  · rename_i l first cap
    split at h
    · rename_i h1 h2
      cases h; exact ⟨rfl, .inr ⟨_, _, _, rfl, h1, h2, rfl⟩⟩
    · cases h
  · cases h
theorem args_rho {ι : Io} {D : Nat → Nat → Prop} {tm : Tr Value} {ρ : Operand → Value} {args : Array Operand} (hx : ∀ x ∈ args.toList, ρ x = conc ι (evO tm x) ∧ inD D (evO tm x)) :
    args.map ρ = ((evL tm args.toList).map (conc ι)).toArray ∧ ∀ x ∈ evL tm args.toList, inD D x := by
  refine ⟨?_, fun x hm => ?_⟩
  · apply Array.ext'
    rw [evL_eq, List.map_map, Array.toList_map]
    exact List.map_congr_left fun p hm => by simp [(hx p hm).1]
  · rw [evL_eq] at hm; obtain ⟨q, hq1, rfl⟩ := List.mem_map.1 hm; exact (hx q hq1).2
theorem resolve_func {ι : Io} {D : Nat → Nat → Prop} {tm : Tr Value} {ρ : Operand → Value} {c : Call} {ty : TypeId} {x : Operand} (hc : c.callee = .value x) (hp : RhoOk ι D tm ρ c.operands.toList)
    {fn : Fn} {first cap : Array Value} (hf : evO tm x = .func fn first cap) :
    (∀ w, (resolve ρ c ty).run P w = .ok { target := .fn (fnC ι fn) (cap.map (conc ι)), args := first.map (conc ι) ++ ((evL tm c.args.toList).map (conc ι)).toArray } w) ∧
      (∀ v ∈ first.toList ++ evL tm c.args.toList ++ cap.toList, inD D v) ∧ (∀ l, fn = .yield l → D l 0) := by
  obtain ⟨callee, args, ats⟩ := c
  simp only at hc
  subst hc
  have hx : ∀ y ∈ args.toList, ρ y = conc ι (evO tm y) ∧ inD D (evO tm y) := fun y hm => hp y (by simp [Call.operands]; exact .inr (by simpa using hm))
  obtain ⟨h1, h2⟩ := hp x (by simp [Call.operands])
  obtain ⟨h3, h4⟩ := args_rho hx
  rw [hf] at h1 h2
  simp only [inD] at h2
  refine ⟨fun w => ?_, fun v hv => ?_, h2.1⟩
  · simp [resolve, h1, conc, Deferred.ofValue, h3]
  · simp only [List.mem_append] at hv
    rcases hv with (hv | hv) | hv
    · exact h2.2.1 v (by simpa using hv)
    · exact h4 v hv
    · exact h2.2.2 v (by simpa using hv)
end Go.Proofs.Ae
namespace Go.Proofs.Ae
variable {P : Program} {tb : Tb}
def CallOk (P : Program) (tb : Tb) (rec : Ex) : Prop := ∀ f args s v s', callF tb rec f args s = some (v, s') → CSem P tb f args s v s'
def RoundOk (P : Program) (tb : Tb) (rec : Ex) : Prop := ∀ l args s v s', roundO rec l args s (s.get l) = some (v, s') → RdSem P tb l args s v s'
def putsR (r : AR) (v : Value) (ds : List ADef) : Prop :=
  match r with
  | .val u => v = u ∧ ds = []
  | .skip => v = undefA ∧ ds = []
  | .defer d => v = undefA ∧ ds = [d]
  | _ => ds = []
def stepsTo (tb : Tb) (rec : Ex) (a : AA) (r : AR) (s1 s' : St) (v : Value) : Prop :=
  match r with
  | .val _ => s' = s1
  | .skip => s' = s1
  | .defer _ => s' = s1 ∧ a.rnd = false
  | .enter f args => callF tb rec f args s1 = some (v, s')
  | .round l args => roundO rec l args s1 (s1.get l) = some (v, s')
theorem stepR_some {rec : Ex} {dst : Option Tmp} {a a' : AA} {r : AR} {s1 s' : St} (h : stepR tb rec dst a (some (r, s1)) = some (a', s')) :
    ∃ v ds, a' = (⟨a.tm, ds ++ a.df, a.rnd, a.fid⟩ : AA).put dst v ∧ putsR r v ds ∧
      stepsTo tb rec a r s1 s' v := by
  cases r with
  | val v =>
    cases h
    exact ⟨v, [], rfl, ⟨rfl, rfl⟩, rfl⟩
  | skip =>
    cases h
    exact ⟨undefA, [], rfl, ⟨rfl, rfl⟩, rfl⟩
  | enter f args =>
    change (match callF tb rec f args s1 with
      | some (v, s') => some (a.put dst v, s')
      | none => none) = some (a', s') at h
    cases hc : callF tb rec f args s1 with
    | none => rw [hc] at h; cases h
    | some p =>
      obtain ⟨v, s2⟩ := p
      rw [hc] at h
      cases h
      exact ⟨v, [], rfl, rfl, hc⟩
  | defer d =>
    change (bif a.rnd then none else some ((⟨a.tm, d :: a.df, a.rnd, a.fid⟩ : AA).put dst undefA, s1)) = some (a', s') at h
    cases hr : a.rnd with
    | true => rw [hr] at h; cases h
    | false =>
      rw [hr] at h
      cases h
      exact ⟨undefA, [d], rfl, ⟨rfl, rfl⟩, rfl, hr⟩
  | round l args =>
    change (match roundO rec l args s1 (s1.get l) with
      | some (v, s') => some (a.put dst v, s')
      | none => none) = some (a', s') at h
    cases hc : roundO rec l args s1 (s1.get l) with
    | none => rw [hc] at h; cases h
    | some p =>
      obtain ⟨v, s2⟩ := p
      rw [hc] at h
      cases h
      exact ⟨v, [], rfl, rfl, hc⟩
theorem step_plain (TB : TbOk P tb) {rec : Ex} (HC : CallOk P tb rec) (HR : RoundOk P tb rec) {o : Oper} {a : AA} {s s1 s' : St} {r : AR} {v : Value} {ds : List ADef} (hc : callsB o.op = false)
    (h : opA tb.ty s a.tm o.op = some (r, s1)) (hp : putsR r v ds)
    (hs : stepsTo tb rec a r s1 s' v) : OSem P tb o a.rnd a.tm s v ds s' := by
  have E := plain_op TB hc h
  have hd : ∀ c, o.op ≠ .defer c := fun c e => by rw [e] at hc; simp [callsB] at hc
  refine ⟨fun hok => ?_, fun F ι w c K Q hok G hr hF hK => ?_⟩
  · have h1 := E.1 hok
    cases r with
    | val u =>
      have hs : s' = s1 := hs
      rw [hs]; exact h1
    | skip =>
      have hs : s' = s1 := hs
      rw [hs]; exact h1
    | defer d =>
      have hs : s' = s1 ∧ a.rnd = false := hs
      rw [hs.1]; exact h1
    | enter f args =>
      have hs : callF tb rec f args s1 = some (v, s') := hs
      exact h1.trans ((HC _ _ _ _ _ hs).1 (h1.ok hok))
    | round l args =>
      have hs : roundO rec l args s1 (s1.get l) = some (v, s') := hs
      exact h1.trans ((HR _ _ _ _ _ hs).1 (h1.ok hok))
  · obtain ⟨ι', w', nx, h1, h2, h3⟩ := E.2 ι w c.eval hok G hr
    refine ⟨about_ok hF.1 _ _ _, ?_⟩
    rw [Oper.semAt_eq _ _ _ hd, h1]
    rcases h3 with ⟨u, rfl, rfl, h4⟩ | ⟨rfl, rfl⟩
    · obtain ⟨rfl, rfl⟩ := hp
      have hs : s' = s1 := hs
      subst hs
      exact hK ι' w' [] h2 h4 trivial (by simp)
    · obtain ⟨rfl, rfl⟩ := hp
      have hs : s' = s1 := hs
      subst hs
      have := hK ι' w' [] h2 (inD_undef _) trivial (by simp)
      rw [conc_undef] at this
      exact this
theorem toArray_cat (a b c : List Value) (f : Value → Value) (x z : Array Value) (ha : x = (a.map f).toArray) (hz : z = (c.map f).toArray) : x ++ (b.map f).toArray ++ z = ((a ++ b ++ c).map f).toArray := by
  subst ha; subst hz; simp
theorem arr_map (f : Value → Value) (x : Array Value) : x.map f = (x.toList.map f).toArray := by
  apply Array.ext'; simp
theorem step_call (TB : TbOk P tb) {rec : Ex} (HC : CallOk P tb rec) (HR : RoundOk P tb rec) {o : Oper} {a : AA} {s s1 s' : St} {r : AR} {v : Value} {ds : List ADef} {c : Call} (hop : o.op = .call c) (hc : callsB o.op = true)
    (h : opA tb.ty s a.tm o.op = some (r, s1)) (hp : putsR r v ds)
    (hs : stepsTo tb rec a r s1 s' v) : OSem P tb o a.rnd a.tm s v ds s' := by
  rw [hop] at h hc
  have hd : ∀ c, o.op ≠ .defer c := fun c e => by rw [hop] at e; cases e
  change callA tb.ty s c a.tm = some (r, s1) at h
  cases hcal : c.callee with
  | builtin b => simp [callsB, hcal] at hc
  | invoke x n => simp only [callA, hcal] at h; cases h
  | value x =>
    simp only [callA, hcal] at h
    obtain ⟨rfl, hv⟩ := callV_some h
    rcases hv with ⟨g, first, cap, hf, rfl⟩ | ⟨l, first, cap, hf, h1, h2, rfl⟩
    · have hs : callF tb rec g (first.toList ++ evL a.tm c.args.toList ++ cap.toList) s1 = some (v, s') := hs
      have hds : ds = [] := hp
      subst hds
      obtain ⟨c1, c2, c3⟩ := HC _ _ _ _ _ hs
      refine ⟨c1, fun F ι w ac K Q hok G hr hF hK => ⟨about_ok hF.1 _ _ _, ?_⟩⟩
      rw [hop] at hr
      obtain ⟨k1, k2, k3⟩ := resolve_func (P := P) (ty := o.type) hcal (by simpa [Op.operands] using hr) hf
      have hrun : (execOp ac.eval o).run P w = .ok (.enter g ((first.toList ++ evL a.tm c.args.toList ++ cap.toList).map (conc ι)).toArray) w := by
        simp only [execOp, hop, Sem.run_bind, k1, Result.andThen_ok, invoke, fnC]
        rw [toArray_cat first.toList (evL a.tm c.args.toList) cap.toList (conc ι) _ _ (arr_map _ _) (arr_map _ _)]
        exact run_callFunc c2 w
      rw [Oper.semAt_eq _ _ _ hd, hrun]
      refine ⟨(fun hh => by rw [hF.2.1] at hh; cases hh), (c3 F ι w hok G k2 ⟨hF.1, hF.2.1, (fun h => by cases h), hF.2.2.2⟩).mono fun e w' he => ?_⟩
      obtain ⟨ι', rfl, h5, h6⟩ := he
      exact hK ι' w' [] h5 h6 trivial (by simp)
    · have hs : roundO rec l (evL a.tm c.args.toList) s1 (s1.get l) = some (v, s') := hs
      have hds : ds = [] := hp
      subst hds
      obtain ⟨c1, c3⟩ := HR _ _ _ _ _ hs
      refine ⟨c1, fun F ι w ac K Q hok G hr hF hK => ⟨about_ok hF.1 _ _ _, ?_⟩⟩
      rw [hop] at hr
      obtain ⟨k1, k2, k3⟩ := resolve_func (P := P) (ty := o.type) hcal (by simpa [Op.operands] using hr) hf
      have ha : ∀ x ∈ evL a.tm c.args.toList, inD (roomy ι s1.get) x := fun x hx => k2 x (by simp [hx])
      obtain ⟨f, tmps, assign, body, d1, d2⟩ := c3 F ι w hok G ha ⟨hF.1, hF.2.1, (fun h => by cases h), hF.2.2.2⟩
      have hrun : (execOp ac.eval o).run P w = .ok (.round (ι l).block f tmps assign body) w := by
        simp only [execOp, hop, Sem.run_bind, k1, Result.andThen_ok, invoke, fnC]
        rw [arr_map, h1]
        simpa using d1
      rw [Oper.semAt_eq _ _ _ hd, hrun]
      refine ⟨(fun hh => by rw [hF.2.1] at hh; cases hh), d2.mono fun e w' he => ?_⟩
      obtain ⟨ι', rfl, h5, h6⟩ := he
      exact hK ι' w' [] h5 h6 trivial (by simp)
theorem deferA_some {x : RO} {r : AR} {s' : St} (h : deferA x = some (r, s')) : ∃ g args, x = some (.enter g args, s') ∧ r = .defer (.call g args) := by
  unfold deferA at h
  split at h
  · cases h; exact ⟨_, _, rfl, rfl⟩
  · cases h
theorem step_defer_op (TB : TbOk P tb) {rec : Ex} {o : Oper} {a : AA} {s s1 s' : St} {r : AR} {v : Value} {ds : List ADef} {c : Call} (hop : o.op = .defer c)
    (h : opA tb.ty s a.tm o.op = some (r, s1)) (hp : putsR r v ds)
    (hs : stepsTo tb rec a r s1 s' v) : OSem P tb o a.rnd a.tm s v ds s' := by
  rw [hop] at h
  change (match c.callee with
    | .value f => deferA (callV s (evL a.tm c.args.toList) (evO a.tm f))
    | _ => none) = some (r, s1) at h
  cases hcal : c.callee with
  | builtin b => rw [hcal] at h; cases h
  | invoke x n => rw [hcal] at h; cases h
  | value x =>
  rw [hcal] at h
  obtain ⟨g, args, hcv, rfl⟩ := deferA_some h
  obtain ⟨hs, hrnd⟩ := hs
  subst hs
  obtain ⟨rfl, rfl⟩ := hp
  · obtain ⟨rfl, hv⟩ := callV_some hcv
    rcases hv with ⟨g', first, cap, hf, hg⟩ | ⟨l, first, cap, hf, h1, h2, hg⟩
    · cases hg
      refine ⟨fun hok => Ev.refl _, fun F ι w ac K Q hok G hr hF hK => ⟨about_ok hF.1 _ _ _, ?_⟩⟩
      rw [hop] at hr
      obtain ⟨k1, k2, k3⟩ := resolve_func (P := P) (ty := o.type) hcal (by simpa [Op.operands] using hr) hf
      have hrun : (Oper.semAt F.round ac.eval o).run P w = .ok (.defer { target := .fn (.func g) (cap.map (conc ι)), args := first.map (conc ι) ++ ((evL a.tm c.args.toList).map (conc ι)).toArray }) w := by
        rw [hF.2.2.1 hrnd, Oper.semAt_none]
        simp only [execOp, hop, Sem.run_bind, k1, Result.andThen_ok, Sem.run_pure, fnC]
      rw [hrun]
      have := hK ι w [{ target := .fn (.func g) (cap.map (conc ι)), args := first.map (conc ι) ++ ((evL a.tm c.args.toList).map (conc ι)).toArray }] (Ext.refl G _) (inD_undef _)
        ⟨⟨_, rfl, toArray_cat _ _ _ _ _ _ (arr_map _ _) (arr_map _ _)⟩, trivial⟩ (by simpa [dfIn] using k2)
      rw [conc_undef] at this
      exact this
    · cases hg
theorem step_sound (TB : TbOk P tb) {rec : Ex} (HC : CallOk P tb rec) (HR : RoundOk P tb rec) {o : Oper} {a a' : AA} {s s' : St} (h : stepA tb rec o a s = some (a', s')) :
    ∃ v ds, a' = (⟨a.tm, ds ++ a.df, a.rnd, a.fid⟩ : AA).put o.dst v ∧ OSem P tb o a.rnd a.tm s v ds s' := by
  unfold stepA at h
  cases ho : opA tb.ty s a.tm o.op with
  | none => rw [ho] at h; cases h
  | some p =>
    obtain ⟨r, s1⟩ := p
    rw [ho] at h
    obtain ⟨v, ds, h1, h2, h3⟩ := stepR_some h
    refine ⟨v, ds, h1, ?_⟩
    cases hc : callsB o.op with
    | false => exact step_plain TB HC HR hc ho h2 h3
    | true =>
      cases hop : o.op with
      | call c => exact step_call TB HC HR hop hc ho h2 h3
      | defer c => exact step_defer_op TB hop ho h2 h3
      | _ => rw [hop] at hc; simp [callsB] at hc
end Go.Proofs.Ae
namespace Go.Proofs.Ae
variable {P : Program} {tb : Tb}
def ybv : Value → Option Bool
  | .bool b => some b
  | _ => none
theorem ybv_conc (ι : Io) (v : Value) : ybv (conc ι v) = ybv v := by
  cases v with
  | pointer a => cases a <;> simp [conc, ybv]
  | slice a n c => cases a <;> simp [conc, ybv]
  | map a => cases a <;> simp [conc, ybv]
  | _ => simp [conc, ybv]
theorem guardO_eq (want : Bool) (o : Option Value) : guardO want o = (ybv (Option.rec (motive := fun _ => Value) undefA (fun v => v) o) == some want) := by
  cases o with
  | none => rfl
  | some v => cases v <;> simp [guardO, ybv]
theorem yb_getD (tmps : Array Value) (d : Nat) : (match tmps[d]? with
    | some (.bool b) => some b
    | _ => none) = ybv (tmps.getD d undef) := by
  rw [Array.getD_eq_getD_getElem?]
  cases h : tmps[d]? with
  | none => rfl
  | some v => cases v <;> rfl
theorem wanted_eq {ops : Array Oper} {o : Oper} {tmps : Array Value} {tm : Tr Value} {ι : Io}
    (h : ∀ g want og d, o.guard = some (g, want) → ops[g]? = some og → og.dst = some d → tmps.getD d undef = conc ι (tmA tm d)) : Region.wanted o (yielded ops tmps) = wantedA ops.toList o.guard tm := by
  unfold Region.wanted wantedA
  cases hg : o.guard with
  | none => rfl
  | some p =>
    obtain ⟨j, want⟩ := p
    simp only [Array.getElem?_toList]
    unfold yielded
    cases hj : ops[j]? with
    | none => rfl
    | some oj =>
      simp only [Option.bind_some]
      cases hd : oj.dst with
      | none => rfl
      | some d =>
        simp only [Option.bind_some]
        rw [guardO_eq]
        have := h j want oj d hg hj hd
        have h2 := yb_getD tmps d
        rw [this, ybv_conc] at h2
        rw [← show tmA tm d = Option.rec (motive := fun _ => Value) undefA (fun v => v) (tm.get d) from rfl, ← h2]
        rfl
theorem DfsOk.append {ι : Io} : ∀ {l l' : List ADef} {xs xs' : List Deferred}, DfsOk ι l xs → DfsOk ι l' xs' → DfsOk ι (l ++ l') (xs ++ xs')
  | [], _, [], _, _, h => h
  | d :: l, _, x :: xs, _, h, k => ⟨h.1, DfsOk.append h.2 k⟩
  | [], _, _ :: _, _, h, _ => h.elim
  | _ :: _, _, [], _, h, _ => h.elim
theorem AOk.push {ι : Io} {g : Hp} {N : Nat} {a : AA} {c : Act} (h : AOk ι g N a c) {ds : List ADef} {xs : List Deferred} (hd : DfsOk ι ds xs) (hi : ∀ d ∈ ds, dfIn (roomy ι g) d) : AOk ι g N ⟨a.tm, ds ++ a.df, a.rnd, a.fid⟩ { c with defers := xs ++ c.defers } :=
  ⟨h.tm, h.tin, hd.append h.df, fun d hm => by
    rcases List.mem_append.1 hm with hm | hm
    · exact hi d hm
    · exact h.din d hm⟩
noncomputable def opOk (tb : Tb) (N : Nat) (o : Oper) : Bool := dstB N o.dst && allB (operandOk tb.gl) o.op.operands.toList
theorem opOk_dst {N : Nat} {o : Oper} (h : opOk tb N o = true) : dstB N o.dst = true := by
  unfold opOk at h; rw [Bool.and_eq_true] at h; exact h.1
theorem opOk_args {N : Nat} {o : Oper} (h : opOk tb N o = true) : ∀ x ∈ o.op.operands.toList, operandOk tb.gl x = true := by
  unfold opOk at h; rw [Bool.and_eq_true] at h; exact allB_spec h.2
theorem put_rnd (a : AA) (d : Option Tmp) (v : Value) : (a.put d v).rnd = a.rnd := by cases d <;> rfl
theorem step_act (TB : TbOk P tb) {rec : Ex} (HC : CallOk P tb rec) (HR : RoundOk P tb rec) {o : Oper} {a a' : AA} {s s' : St} (h : stepA tb rec o a s = some (a', s')) :
    (s.Ok → Ev s s') ∧ a'.rnd = a.rnd ∧ ∀ N F ι w ac (K : Act → World → Prop) (Q : Exit → Act → World → Prop), s.Ok → Good tb ι s.get w → opOk tb N o = true → FOk a.rnd F → AOk ι s.get N a ac →
      (∀ ι' ac' w', Ext tb ι s.get w ι' s'.get w' s'.mods → AOk ι' s'.get N a' ac' → K ac' w') → o.wpIn F 0 P ac w K Q := by
  obtain ⟨v, ds, rfl, h1, h2⟩ := step_sound TB HC HR h
  refine ⟨h1, by rw [put_rnd], fun N F ι w ac K Q hok G hop hF hA hK => ?_⟩
  refine h2 F ι w ac K Q hok G (hA.rho G (opOk_args hop)) hF fun ι' w' xs E hv hd hdi => ?_
  exact hK ι' _ w' E (((hA.ext E).push hd hdi).put (opOk_dst hop) hv)
theorem regA_cons {rec : Ex} {ops : List Oper} {o : Oper} {l : List Oper} {a : AA} {s : St} : regA tb rec ops (o :: l) a s =
    bif wantedA ops o.guard a.tm then
      match stepA tb rec o a s with
      | some (a', s') => regA tb rec ops l a' s'
      | none => none
    else regA tb rec ops l (a.put o.dst undefA) s := rfl
theorem reg_sound (TB : TbOk P tb) {rec : Ex} (HC : CallOk P tb rec) (HR : RoundOk P tb rec) (ops : List Oper) : ∀ (l pre : List Oper), ops = pre ++ l → ∀ {a a' : AA} {s s' : St}, regA tb rec ops l a s = some (a', s') →
    (s.Ok → Ev s s') ∧ a'.rnd = a.rnd ∧ ∀ N F ι w ac (Q : Exit → Act → World → Prop), s.Ok → Good tb ι s.get w → (∀ o ∈ ops, opOk tb N o = true) → FOk a.rnd F → AOk ι s.get N a ac →
      (∀ ι' ac' w', Ext tb ι s.get w ι' s'.get w' s'.mods → AOk ι' s'.get N a' ac' → Q .normal ac' w') → wpOpsIn F 0 P ops.toArray Q (List.range' pre.length l.length) ac w := by
  intro l
  induction l with
  | nil =>
    intro pre hpre a a' s s' h
    cases h
    exact ⟨fun _ => Ev.refl _, rfl, fun N F ι w ac Q hok G hops hF hA hQ => hQ ι ac w (Ext.refl G _) hA⟩
  | cons o l ih =>
    intro pre hpre a a' s s' h
    have hi : ops.toArray[pre.length]? = some o := by rw [List.getElem?_toArray, hpre]; simp
    have hmem : o ∈ ops := by rw [hpre]; simp
    have hpre' : ops = (pre ++ [o]) ++ l := by rw [hpre]; simp
    have hlen : (pre ++ [o]).length = pre.length + 1 := by simp
    rw [regA_cons] at h
    have hrange : List.range' pre.length (o :: l).length = pre.length :: List.range' (pre.length + 1) l.length := by simp [List.range'_succ]
    cases hw : wantedA ops o.guard a.tm with
    | false =>
      rw [hw] at h
      simp only [cond_false] at h
      obtain ⟨h1, h2, h3⟩ := ih (pre ++ [o]) hpre' h
      refine ⟨h1, by rw [h2, put_rnd], fun N F ι w ac Q hok G hops hF hA hQ => ?_⟩
      rw [hrange, wpOpsIn_cons]
      unfold wpOpIn
      rw [hi]
      simp only
      rw [wanted_eq (tm := a.tm) (ι := ι) (fun g want og d _ _ _ => hA.tm.2 d)]
      simp only [List.toList_toArray, hw, Bool.false_eq_true, if_false]
      refine ⟨about_ok hF.1 _ _ _, ?_⟩
      have hp := hA.put (opOk_dst (hops o hmem)) (inD_undef (roomy ι s.get))
      rw [conc_undef] at hp
      have := h3 N F ι w _ Q hok G hops (by rw [put_rnd]; exact hF) hp hQ
      rw [hlen] at this
      exact this
    | true =>
      rw [hw] at h
      simp only [cond_true] at h
      cases hs : stepA tb rec o a s with
      | none => rw [hs] at h; cases h
      | some p =>
        obtain ⟨a1, s1⟩ := p
        rw [hs] at h
        obtain ⟨e1, e2, e3⟩ := step_act TB HC HR hs
        obtain ⟨h1, h2, h3⟩ := ih (pre ++ [o]) hpre' h
        refine ⟨fun hok => (e1 hok).trans (h1 ((e1 hok).ok hok)), h2.trans e2, fun N F ι w ac Q hok G hops hF hA hQ => ?_⟩
        rw [hrange, wpOpsIn_cons]
        unfold wpOpIn
        rw [hi]
        simp only
        rw [wanted_eq (tm := a.tm) (ι := ι) (fun g want og d _ _ _ => hA.tm.2 d)]
        simp only [List.toList_toArray, hw, if_true]
        refine e3 N F ι w ac _ Q hok G (hops o hmem) hF hA fun ι1 ac1 w1 E1 hA1 => ?_
        have hok1 := (e1 hok).ok hok
        have := h3 N F ι1 w1 ac1 Q hok1 E1.good hops (by rw [e2]; exact hF) hA1 fun ι' ac' w' E hA' => hQ ι' ac' w' (E1.trans E (h1 hok1).mods) hA'
        rw [hlen] at this
        exact this
end Go.Proofs.Ae
namespace Go.Proofs.Ae
variable {P : Program} {tb : Tb}
def Closed (ops : Array Oper) (L : Nat → Bool) : Prop := ∀ j o, ops[j]? = some o → L j = true → ∀ e ∈ o.after, Region.binds .any e = true → L e.on = true
def ReadyAt (L : Nat → Bool) (o : Oper) : Prop := ∀ e ∈ o.after, Region.binds .any e = true → L e.on = true
noncomputable def ndOf (T : Tr TI) (ops : List Oper) (j : Nat) (o : Oper) : Nd := ⟨j, seesL ops o, o.dst, effB o.op, newO T o.op⟩
theorem ancL_spec {ms : Nat → Nat} : ∀ {es : List Edge} {k : Nat}, (ancL ms es).testBit k = true → ∃ e ∈ es, Region.binds .any e = true ∧ (e.on = k ∨ (ms e.on).testBit k = true)
  | [], k, h => by simp [ancL] at h
  | e :: es, k, h => by
    change Nat.testBit (bif Region.binds .any e then Nat.lor (Nat.lor (2 ^ e.on) (ms e.on)) (ancL ms es) else ancL ms es) k = true at h
    cases hb : Region.binds .any e with
    | false =>
      rw [hb] at h
      obtain ⟨e', h1, h2⟩ := ancL_spec (es := es) h
      exact ⟨e', by simp [h1], h2⟩
    | true =>
      rw [hb] at h
      simp only [cond_true] at h
      change Nat.testBit ((2 ^ e.on ||| ms e.on) ||| ancL ms es) k = true at h
      rw [Nat.testBit_or, Nat.testBit_or, Nat.testBit_two_pow] at h
      simp only [Bool.or_eq_true, decide_eq_true_eq] at h
      rcases h with (h | h) | h
      · exact ⟨e, by simp, hb, .inl h⟩
      · exact ⟨e, by simp, hb, .inr h⟩
      · obtain ⟨e', h1, h2⟩ := ancL_spec (es := es) h
        exact ⟨e', by simp [h1], h2⟩
structure DrawOk (T : Tr TI) (ops : Array Oper) : Prop where
  lower : ∀ j o, ops[j]? = some o → ∀ e ∈ o.after, Region.binds .any e = true → e.on < j
  bnd : ∀ i j oi oj, i < j → ops[i]? = some oi → ops[j]? = some oj → bound (ndOf T ops.toList i oi) (ndOf T ops.toList j oj) = true → ∀ L, Closed ops L → ReadyAt L oj → L i = true
theorem drawOk_cons {T : Tr TI} {ops : List Oper} {o : Oper} {l : List Oper} {j : Nat} {prev : List Nd} {ms : Nat → Nat} : drawOk T ops (o :: l) j prev ms =
    (allB (fun e => !Region.binds .any e || Nat.ble (e.on + 1) j) o.after.toList
        && allB (fun p => !bound p (ndOf T ops j o) || (ancL ms o.after.toList).testBit p.i) prev
        && drawOk T ops l (j + 1) (ndOf T ops j o :: prev) (fun i => bif Nat.beq i j then ancL ms o.after.toList else ms i)) := rfl
theorem drawOk_spec {T : Tr TI} (ops : Array Oper) : ∀ (l pre : List Oper) (prev : List Nd) (ms : Nat → Nat), ops.toList = pre ++ l → drawOk T ops.toList l pre.length prev ms = true →
    (∀ i o, pre[i]? = some o → ndOf T ops.toList i o ∈ prev) → (∀ i, i < pre.length → ∀ k, (ms i).testBit k = true → ∀ L, Closed ops L → L i = true → L k = true) →
    (∀ j o, pre.length ≤ j → ops[j]? = some o → (∀ e ∈ o.after, Region.binds .any e = true → e.on < j) ∧
      ∀ i oi, i < j → ops[i]? = some oi → bound (ndOf T ops.toList i oi) (ndOf T ops.toList j o) = true → ∀ L, Closed ops L → ReadyAt L o → L i = true) := by
  intro l
  induction l with
  | nil =>
    intro pre prev ms hpre _ _ _ j o hj ho
    have : ops.size = pre.length := by rw [← Array.length_toList, hpre]; simp
    have h2 := (Array.getElem?_eq_some_iff.1 ho).1
    omega
  | cons x l ih =>
    intro pre prev ms hpre h hprev hms j o hj ho
    rw [drawOk_cons, Bool.and_eq_true, Bool.and_eq_true] at h
    obtain ⟨⟨h1, h2⟩, h3⟩ := h
    have hx : ops[pre.length]? = some x := by rw [← Array.getElem?_toList, hpre]; simp
    have hlow : ∀ e ∈ x.after, Region.binds .any e = true → e.on < pre.length := fun e he hb => by
      have := allB_spec h1 e (by simpa using he)
      simp only [hb, Bool.not_true, Bool.false_or] at this
      have := Nat.le_of_ble_eq_true this
      omega
    have hanc : ∀ k, (ancL ms x.after.toList).testBit k = true → ∀ L, Closed ops L → ReadyAt L x → L k = true := fun k hk L hL hr => by
      obtain ⟨e, he, hb, hor⟩ := ancL_spec hk
      have h5 := hr e (by simpa using he) hb
      rcases hor with rfl | hor
      · exact h5
      · exact hms e.on (hlow e (by simpa using he) hb) k hor L hL h5
    by_cases hjp : j = pre.length
    · subst hjp
      rw [hx] at ho; cases ho
      refine ⟨hlow, fun i oi hi hoi hbnd L hL hr => ?_⟩
      have hpi : pre[i]? = some oi := by
        rw [← Array.getElem?_toList, hpre, List.getElem?_append_left hi] at hoi; exact hoi
      have := allB_spec h2 _ (hprev i oi hpi)
      simp only [hbnd, Bool.not_true, Bool.false_or] at this
      exact hanc i this L hL hr
    · have hlen : (pre ++ [x]).length = pre.length + 1 := by simp
      refine ih (pre ++ [x]) _ _ (by rw [hpre]; simp) (by rw [hlen]; exact h3) (fun i oi hoi => ?_) (fun i hi k hk L hL hLi => ?_) j o (by rw [hlen]; omega) ho
      · rcases Nat.lt_or_ge i pre.length with hlt | hge
        · rw [List.getElem?_append_left hlt] at hoi
          exact List.mem_cons_of_mem _ (hprev i oi hoi)
        · have hi2 : i < (pre ++ [x]).length := by
            obtain ⟨hh, _⟩ := List.getElem?_eq_some_iff.1 hoi; exact hh
          have : i = pre.length := by rw [hlen] at hi2; omega
          subst this
          simp at hoi
          subst hoi
          exact List.mem_cons_self
      · rw [hlen] at hi
        cases hb : Nat.beq i pre.length with
        | true =>
          have hi' : i = pre.length := Nat.eq_of_beq_eq_true hb
          subst hi'
          simp only [hb, cond_true] at hk
          exact hanc k hk L hL (hL pre.length x hx hLi)
        | false =>
          simp only [hb, cond_false] at hk
          have hne : i ≠ pre.length := fun e => by rw [e] at hb; simp at hb
          exact hms i (by omega) k hk L hL hLi
theorem DrawOk.of {T : Tr TI} {ops : Array Oper} (h : drawOk T ops.toList ops.toList 0 [] (fun _ => 0) = true) : DrawOk T ops := by
  have := drawOk_spec ops ops.toList [] [] (fun _ => 0) rfl h (fun i o hi => by simp at hi) (fun i hi => by simp at hi)
  exact ⟨fun j o ho => (this j o (Nat.zero_le _) ho).1, fun i j oi oj hij hi hj => (this j oj (Nat.zero_le _) hj).2 i oi hij hi⟩
def bare (s : St) : St := ⟨s.heap, s.next, []⟩
def StepOk (P : Program) (tb : Tb) (ops : List Oper) (o : Oper) (σ σ' : St) (τ τ' : AA) (V : Value) (al : Option AObj) (rds mds : List Nat) : Prop :=
  (wantedA ops o.guard τ.tm = false ∧ τ' = τ.put o.dst undefA ∧ V = undefA ∧ σ' = σ ∧ al = none ∧ rds = [] ∧ mds = []) ∨
  (wantedA ops o.guard τ.tm = true ∧ effB o.op = false ∧ τ' = τ.put o.dst V ∧ rds = readsA τ.tm o.op ∧ mds = [] ∧ ((al = none ∧ σ' = σ) ∨ ∃ ob, al = some ob ∧ σ' = σ.alloc ob ∧ newO tb.ty o.op = true) ∧ QOp P tb o σ τ.tm σ' V) ∨
  (wantedA ops o.guard τ.tm = true ∧ effB o.op = true ∧ al = none ∧ rds = [] ∧ ∃ ds s1, τ' = (⟨τ.tm, ds ++ τ.df, τ.rnd, τ.fid⟩ : AA).put o.dst V ∧ OSem P tb o τ.rnd τ.tm (bare σ) V ds s1 ∧ σ' = joinMods σ s1 ∧ mds = s1.mods)
structure Trk (P : Program) (tb : Tb) (ops l : List Oper) (i0 : Nat) (RD WR : List (Nat × Nat)) (a0 a1 : AA) (s0 s1 : St) (σ : Nat → St) (τ : Nat → AA) (V : Nat → Value) (al : Nat → Option AObj) (rd md : Nat → List Nat) : Prop where
  startS : σ 0 = s0
  startA : τ 0 = a0
  finS : σ l.length = s1
  finA : τ l.length = a1
  step : ∀ j o, l[j]? = some o → StepOk P tb ops o (σ j) (σ (j + 1)) (τ j) (τ (j + 1)) (V j) (al j) (rd j) (md j)
  ap1 : ∀ i j oj, i < j → l[j]? = some oj → ∀ b ∈ md j, b ∈ rd i → edgeB (cloE ops oj) (i0 + i) = true
  ap2 : ∀ i j oj, i < j → l[j]? = some oj → ∀ b ∈ rd j, b ∈ md i → edgeB (cloE ops oj) (i0 + i) = true
  pre1 : ∀ p ∈ RD, ∀ j oj, l[j]? = some oj → p.2 ∈ md j → edgeB (cloE ops oj) p.1 = true
  pre2 : ∀ p ∈ WR, ∀ j oj, l[j]? = some oj → p.2 ∈ rd j → edgeB (cloE ops oj) p.1 = true
theorem memB_iff : ∀ {l : List Nat} {j : Nat}, memB l j = true ↔ j ∈ l
  | [], j => by simp [memB]
  | e :: l, j => by
    change Bool.rec (motive := fun _ => Bool) (memB l j) true (Nat.beq e j) = true ↔ _
    cases h : Nat.beq e j with
    | true => simp [Nat.eq_of_beq_eq_true h]
    | false =>
      have hne : e ≠ j := fun e' => by rw [e'] at h; simp at h
      simp only [memB_iff (l := l), List.mem_cons]
      constructor
      · exact .inr
      · rintro (rfl | h)
        · exact absurd rfl hne
        · exact h
theorem apartB_spec {es : List Edge} {bs : List Nat} : ∀ {ps : List (Nat × Nat)}, apartB es bs ps = true → ∀ p ∈ ps, p.2 ∈ bs → edgeB es p.1 = true
  | [], _, p, hp, _ => by cases hp
  | q :: ps, h, p, hp, hb => by
    change Bool.rec (motive := fun _ => Bool) false (apartB es bs ps) (!(memB bs q.2) || edgeB es q.1) = true at h
    cases hc : (!(memB bs q.2) || edgeB es q.1) with
    | false => rw [hc] at h; cases h
    | true =>
      rw [hc] at h
      rcases List.mem_cons.1 hp with rfl | hp
      · rw [Bool.or_eq_true] at hc
        rcases hc with hc | hc
        · rw [memB_iff.2 hb] at hc; cases hc
        · exact hc
      · exact apartB_spec (ps := ps) h p hp hb
theorem tagL_mem {i : Nat} {ps : List (Nat × Nat)} : ∀ {l : List Nat} {p : Nat × Nat}, p ∈ tagL i ps l ↔ (p.1 = i ∧ p.2 ∈ l) ∨ p ∈ ps
  | [], p => by simp [tagL]
  | m :: l, p => by
    change p ∈ (i, m) :: tagL i ps l ↔ _
    rw [List.mem_cons, tagL_mem (l := l)]
    obtain ⟨x, y⟩ := p
    simp only [Prod.mk.injEq, List.mem_cons]
    constructor
    · rintro (⟨rfl, rfl⟩ | ⟨rfl, h⟩ | h)
      · exact .inl ⟨rfl, .inl rfl⟩
      · exact .inl ⟨rfl, .inr h⟩
      · exact .inr h
    · rintro (⟨rfl, rfl | h⟩ | h)
      · exact .inl ⟨rfl, rfl⟩
      · exact .inr (.inl ⟨rfl, h⟩)
      · exact .inr (.inr h)
def consF {α : Type} (x : α) (f : Nat → α) : Nat → α
  | 0 => x
  | k + 1 => f k
theorem drawA_cons {rec : Ex} {ops : List Oper} {o : Oper} {l : List Oper} {i : Nat} {rd wr : List (Nat × Nat)} {a : AA} {s : St} : drawA tb rec ops (o :: l) i rd wr a s =
    bif wantedA ops o.guard a.tm then
      match stepA tb rec o a (bare s) with
      | some (a', s') =>
        bif effB o.op then
          bif apartB (cloE ops o) s'.mods rd then drawA tb rec ops l (i + 1) rd (tagL i wr s'.mods) a' (joinMods s s') else none
        else
          bif apartB (cloE ops o) (readsA a.tm o.op) wr then drawA tb rec ops l (i + 1) (tagL i rd (readsA a.tm o.op)) wr a' (joinMods s s') else none
      | none => none
    else drawA tb rec ops l (i + 1) rd wr (a.put o.dst undefA) s := rfl
theorem Trk.cons {ops l : List Oper} {i0 : Nat} {RD WR RD' WR' : List (Nat × Nat)} {o : Oper} {a a1 a2 : AA} {s s1 s2 : St} {σ : Nat → St} {τ : Nat → AA} {V : Nat → Value} {al : Nat → Option AObj} {rd md : Nat → List Nat}
    {v : Value} {ob : Option AObj} {r m : List Nat} (H : Trk P tb ops l (i0 + 1) RD' WR' a1 a2 s1 s2 σ τ V al rd md) (hst : StepOk P tb ops o s s1 a a1 v ob r m)
    (hR : ∀ p, p ∈ RD' ↔ (p.1 = i0 ∧ p.2 ∈ r) ∨ p ∈ RD) (hW : ∀ p, p ∈ WR' ↔ (p.1 = i0 ∧ p.2 ∈ m) ∨ p ∈ WR)
    (h1 : ∀ p ∈ RD, p.2 ∈ m → edgeB (cloE ops o) p.1 = true) (h2 : ∀ p ∈ WR, p.2 ∈ r → edgeB (cloE ops o) p.1 = true) :
    Trk P tb ops (o :: l) i0 RD WR a a2 s s2 (consF s σ) (consF a τ) (consF v V) (consF ob al) (consF r rd) (consF m md) where
  startS := rfl
  startA := rfl
  finS := by simp only [List.length_cons, consF]; exact H.finS
  finA := by simp only [List.length_cons, consF]; exact H.finA
  step j o' ho := by
    cases j with
    | zero =>
      simp at ho
      subst ho
      simp only [consF]
      rw [H.startS, H.startA]
      exact hst
    | succ k =>
      simp at ho
      exact H.step k o' ho
  ap1 i j oj hij hoj b hb hr := by
    cases j with
    | zero => omega
    | succ j =>
      simp at hoj
      cases i with
      | zero =>
        simp only [consF] at hb hr
        exact H.pre1 (i0, b) ((hR _).2 (.inl ⟨rfl, hr⟩)) j oj hoj hb
      | succ i =>
        simp only [consF] at hb hr
        have := H.ap1 i j oj (by omega) hoj b hb hr
        rw [show i0 + (i + 1) = i0 + 1 + i from by omega]
        exact this
  ap2 i j oj hij hoj b hb hr := by
    cases j with
    | zero => omega
    | succ j =>
      simp at hoj
      cases i with
      | zero =>
        simp only [consF] at hb hr
        exact H.pre2 (i0, b) ((hW _).2 (.inl ⟨rfl, hr⟩)) j oj hoj hb
      | succ i =>
        simp only [consF] at hb hr
        have := H.ap2 i j oj (by omega) hoj b hb hr
        rw [show i0 + (i + 1) = i0 + 1 + i from by omega]
        exact this
  pre1 p hp j oj hoj hb := by
    cases j with
    | zero => simp at hoj; subst hoj; exact h1 p hp hb
    | succ j => simp at hoj; exact H.pre1 p ((hR _).2 (.inr hp)) j oj hoj hb
  pre2 p hp j oj hoj hb := by
    cases j with
    | zero => simp at hoj; subst hoj; exact h2 p hp hb
    | succ j => simp at hoj; exact H.pre2 p ((hW _).2 (.inr hp)) j oj hoj hb
end Go.Proofs.Ae
namespace Go.Proofs.Ae
variable {P : Program} {tb : Tb}
theorem valO_st {s s' : St} {o : Option Value} {r : AR} (h : valO s o = some (r, s')) : s' = s := by
  cases o with
  | none => cases h
  | some v => cases h; rfl
theorem idxTo_st {s s' : St} {a : Addr} {i : Int} {n : Nat} {o : Option TI} {r : AR} (h : idxTo s a i n o = some (r, s')) : s' = s := by
  cases o with
  | none => cases h
  | some te =>
    cases i with
    | ofNat i =>
      change (bif Nat.ble (i + 1) n then some (AR.val (.pointer (some (addA a (i * te.size)))), s) else none) = some (r, s') at h
      cases hb : Nat.ble (i + 1) n <;> rw [hb] at h <;> cases h
      rfl
    | negSucc i => cases h
theorem foundA_st {s s' : St} {ok : Bool} {z : Value} {o : Option (Option Value)} {r : AR} (h : foundA s ok z o = some (r, s')) : s' = s := by
  unfold foundA at h
  split at h <;> cases h <;> rfl
theorem toStr_st {s s' : St} {o : Option (List Value)} {r : AR} (h : toStr s o = some (r, s')) : s' = s := by
  unfold toStr at h
  repeat' split at h
  all_goals first | (cases h; done) | (cases h; rfl)
theorem substrA_st {s s' : St} {b : ByteArray} {lo hi : Option Value} {r : AR} (h : substrA s b lo hi = some (r, s')) : s' = s := by
  unfold substrA at h
  repeat' split at h
  all_goals first | (cases h; done) | (cases h; rfl)
theorem sliceE_st {s s' : St} {sz : Nat} {a : Option Addr} {len cap : Nat} {lo hi mx : Option Value} {v : Value} (h : sliceE s sz a len cap lo hi mx = some (v, s')) : s' = s := by
  unfold sliceE at h
  repeat' split at h
  all_goals first | (cases h; done) | (cases h; rfl)
theorem bif_some {α : Type} {b : Bool} {x : Option α} {y : α} (h : (bif b then x else none) = some y) : b = true ∧ x = some y := by
  cases b with
  | true => exact ⟨rfl, h⟩
  | false => cases h
theorem bif_some' {α : Type} {b : Bool} {x : Option α} {y : α} (h : (bif b then none else x) = some y) : b = false ∧ x = some y := by
  cases b with
  | false => exact ⟨rfl, h⟩
  | true => cases h
theorem bif_cases {α : Type} {b : Bool} {x y : Option α} {z : α} (h : (bif b then x else y) = some z) : (b = true ∧ x = some z) ∨ (b = false ∧ y = some z) := by
  cases b with
  | true => exact .inl ⟨rfl, h⟩
  | false => exact .inr ⟨rfl, h⟩
theorem sliceG_st {s s' : St} {sz : Nat} {a : Addr} {len cap : Nat} {lo hi mx : Option Value} (hm : mx.isNone = false) {v : Value} (h : sliceG s sz a len cap lo hi mx = some (v, s')) : s' = s := by
  unfold sliceG at h
  cases mx with
  | none => cases hm
  | some m =>
    simp only at h
    repeat' split at h
    all_goals first | (cases h; done) | (cases (bif_some' h).2; rfl)
theorem sliceA_st {T : Tr TI} {s s' : St} {x : Value} {lo hi mx : Option Value} (hm : mx.isNone = false) {o : Option TI} {r : AR} (h : sliceA T s x lo hi mx o = some (r, s')) : s' = s := by
  unfold sliceA at h
  have hv : ∀ {o : Option (Value × St)}, (∀ v s', o = some (v, s') → s' = s) → valS o = some (r, s') → s' = s := fun {o} ho hh => by
    cases o with
    | none => cases hh
    | some p => obtain ⟨v, s1⟩ := p; cases hh; exact ho _ _ rfl
  repeat' split at h
  all_goals first
    | (cases h; done)
    | exact substrA_st h
    | (exact hv (fun v s1 hs => sliceE_st hs) (bif_some' h).2)
    | skip
  · refine hv (fun v s1 hs => ?_) (bif_some h).2
    unfold sliceS at hs
    rcases bif_cases hs with ⟨_, hs⟩ | ⟨_, hs⟩
    · split at hs
      · cases hs
      · exact sliceG_st hm (bif_some hs).2
    · exact sliceE_st hs
theorem not_new {T : Tr TI} {s s' : St} {tm : Tr Value} {o : Op} {r : AR} (he : effB o = false) (hn : newO T o = false) (h : opA T s tm o = some (r, s')) : s' = s := by
  unfold opA at h
  cases o <;> try (simp [effB] at he; done)
  case move x => cases h; rfl
  case assign x => cases h; rfl
  case pick c a b =>
    change pickA s _ _ _ = _ at h
    unfold pickA at h
    split at h <;> cases h <;> rfl
  case alloc t => simp [newO, newB] at hn
  case box t x => simp [newO, newB] at hn
  case build t ps =>
    change buildA T s _ _ = _ at h
    unfold buildA at h
    repeat' split at h
    all_goals first | (cases h; done) | exact valO_st h
  case buildSlice t n ps => simp [newO, newB] at hn
  case load t a =>
    change loadA s _ _ = _ at h
    unfold loadA at h
    repeat' split at h
    all_goals first | (cases h; done) | exact valO_st h
  case nilCheck x =>
    change nilA s _ = _ at h
    unfold nilA at h
    split at h <;> cases h <;> rfl
  case binOp op t x y yt => exact valO_st h
  case unOp op t x => exact valO_st h
  case convert a b x =>
    change convA T s (Nat.beq a b) (tyD T (some a)) (tyD T (some b)) (evO tm x) = _ at h
    have hab : Nat.beq a b = false := he
    rw [hab] at h
    unfold newO at hn
    simp only at hn
    cases hs : tyD T (some a) with
    | slice e =>
      rw [hs] at h
      unfold convA at h
      cases hd : tyD T (some b) <;> rw [hd] at h <;> simp only at h <;> try (cases h; done)
      obtain ⟨_, h⟩ := bif_some h
      repeat' split at h
      all_goals first | (cases h; done) | (cases h; rfl) | exact toStr_st h
    | _ => rw [hs] at hn; simp [newB] at hn
  case makeInterface t x =>
    change mkIfaceA s _ _ _ = _ at h
    unfold mkIfaceA at h
    repeat' split at h
    all_goals first | (cases h; done) | (cases h; rfl)
  case makeFunc fn first cap =>
    change mkFuncA tm s _ _ _ = _ at h
    unfold mkFuncA at h
    repeat' split at h
    all_goals first | (cases h; done) | (cases h; rfl)
  case makeMap t rr => simp [newO, newB] at hn
  case makeSlice t l c => simp [newO, newB] at hn
  case slice t x lo hi mx =>
    have hm : mx.isNone = false := hn
    refine sliceA_st (mx := optO tm mx) ?_ h
    cases mx with
    | none => cases hm
    | some m => rfl
  case fieldAddr t x f =>
    change fieldAddrA T s _ _ _ = _ at h
    unfold fieldAddrA at h
    repeat' split at h
    all_goals first | (cases h; done) | (cases (bif_some' h).2; rfl)
  case field t x f =>
    change fieldA T s _ _ _ = _ at h
    unfold fieldA at h
    repeat' split at h
    all_goals first | (cases h; done) | exact valO_st h
  case indexAddr t x i =>
    change indexAddrA T s _ _ _ = _ at h
    unfold indexAddrA at h
    repeat' split at h
    all_goals first | (cases h; done) | exact idxTo_st h
  case index t x i =>
    change indexA T s _ _ _ = _ at h
    unfold indexA at h
    repeat' split at h
    all_goals first | (cases h; done) | (cases h; rfl) | exact valO_st (bif_some h).2
  case lookup t x i ok =>
    change lookupA T s _ _ _ _ = _ at h
    unfold lookupA at h
    repeat' split at h
    all_goals first | (cases h; done) | (cases (bif_some h).2; done) | exact foundA_st (bif_some h).2
  case typeAssert x u t ok =>
    change assertA s _ _ _ _ = _ at h
    unfold assertA at h
    repeat' split at h
    all_goals first | (cases h; done) | (cases (bif_some h).2; rfl) | skip
    all_goals first | (cases h; rfl) | skip
    all_goals
      rcases bif_cases h with ⟨_, h⟩ | ⟨_, h⟩
      · cases h; rfl
      · cases (bif_some h).2; rfl
  case extract x i =>
    change extractA s _ _ = _ at h
    unfold extractA at h
    repeat' split at h
    all_goals first | (cases h; done) | exact valO_st h
  case call c =>
    obtain ⟨callee, args, ats⟩ := c
    cases callee with
    | builtin b =>
      have hb : quietB b = true := by simpa [effB] using he
      change builtinA T s b ats.toList (evL tm args.toList) = _ at h
      unfold builtinA at h
      cases b <;> try (simp [quietB] at hb; done)
      all_goals simp only at h
      all_goals
        repeat' split at h
        all_goals first | (cases h; done) | (cases h; rfl) | (cases (bif_some' h).2; rfl) | (cases (bif_some' h).2; done) | skip
      unfold lenA at h
      repeat' split at h
      all_goals first | (cases h; done) | (cases h; rfl) | skip
      unfold lenObj at h
      split at h <;> cases h <;> rfl
    | invoke x n => simp [effB] at he
    | value f => simp [effB] at he
  all_goals first | (cases h; done) | skip
theorem bare_get (s : St) : (bare s).get = s.get := rfl
theorem joinMods_get (s s1 : St) : (joinMods s s1).get = s1.get := rfl
theorem join_bare (s : St) : joinMods s (bare s) = s := rfl
theorem join_alloc (s : St) (o : AObj) : joinMods s ((bare s).alloc o) = s.alloc o := rfl
theorem alloc_inj {s : St} {o o' : AObj} (h : s.alloc o = s.alloc o') : o = o' := by
  have := congrArg (fun t => t.get s.next) h
  simp only [St.get_alloc_self] at this
  injection this
theorem alloc_ne {s : St} {o : AObj} : s.alloc o ≠ s := fun h => by
  have h2 : (s.alloc o).next = s.next := congrArg St.next h
  rw [St.next_alloc] at h2
  omega
theorem QOp.unbare {o : Oper} {s s1 : St} {tm : Tr Value} {v : Value} (h : QOp P tb o (bare s) tm s1 v) : QOp P tb o s tm (joinMods s s1) v := by
  obtain ⟨h1, h2⟩ := h
  have hcase : (s1 = bare s ∧ joinMods s s1 = s) ∨ ∃ ob, s1 = (bare s).alloc ob ∧ joinMods s s1 = s.alloc ob := by
    rcases h1 with rfl | ⟨ob, rfl⟩
    · exact .inl ⟨rfl, rfl⟩
    · exact .inr ⟨ob, rfl, rfl⟩
  refine ⟨?_, fun ι g w ρ G hr hp hn => ?_⟩
  · rcases hcase with ⟨_, h⟩ | ⟨ob, _, h⟩
    · exact .inl h
    · exact .inr ⟨ob, h⟩
  · obtain ⟨ι', g', w', k1, k2, k3, k4⟩ := h2 ι g w ρ G hr hp (fun ⟨ob, e⟩ => hn (by
      rcases hcase with ⟨e2, _⟩ | ⟨ob', _, e3⟩
      · rw [e2] at e; exact absurd e.symm alloc_ne
      · exact ⟨ob', e3⟩))
    refine ⟨ι', g', w', k1, k2, k3, ?_⟩
    rcases k4 with ⟨e, rfl⟩ | ⟨ob, e, rfl⟩
    · exact .inl ⟨by rw [e]; rfl, rfl⟩
    · exact .inr ⟨ob, by rw [e]; rfl, rfl⟩
theorem drawA_trk (TB : TbOk P tb) {rec : Ex} (HC : CallOk P tb rec) (HR : RoundOk P tb rec) (ops : List Oper) : ∀ (l : List Oper) (i : Nat) (rd wr : List (Nat × Nat)) (a a' : AA) (s s' : St), drawA tb rec ops l i rd wr a s = some (a', s') →
    ∃ σ τ V al rds mds, Trk P tb ops l i rd wr a a' s s' σ τ V al rds mds := by
  intro l
  induction l with
  | nil =>
    intro i rd wr a a' s s' h
    cases h
    exact ⟨fun _ => s, fun _ => a, fun _ => undefA, fun _ => none, fun _ => [], fun _ => [], rfl, rfl, rfl, rfl, fun j o ho => by simp at ho, fun i j oj _ ho => by simp at ho, fun i j oj _ ho => by simp at ho, fun p _ j oj ho => by simp at ho, fun p _ j oj ho => by simp at ho⟩
  | cons o l ih =>
    intro i rd wr a a' s s' h
    rw [drawA_cons] at h
    cases hw : wantedA ops o.guard a.tm with
    | false =>
      rw [hw] at h
      simp only [cond_false] at h
      obtain ⟨σ, τ, V, al, rds, mds, H⟩ := ih _ _ _ _ _ _ _ h
      exact ⟨_, _, _, _, _, _, Trk.cons (v := undefA) (ob := none) (r := []) (m := []) H (.inl ⟨hw, rfl, rfl, rfl, rfl, rfl, rfl⟩) (fun p => by simp) (fun p => by simp) (fun p _ hp => by simp at hp) (fun p _ hp => by simp at hp)⟩
    | true =>
      rw [hw] at h
      simp only [cond_true] at h
      cases hs : stepA tb rec o a (bare s) with
      | none => rw [hs] at h; cases h
      | some q =>
        obtain ⟨a1, s1⟩ := q
        rw [hs] at h
        simp only at h
        cases he : effB o.op with
        | true =>
          rw [he] at h
          simp only [cond_true] at h
          obtain ⟨hap, h⟩ := bif_some h
          obtain ⟨σ, τ, V, al, rds, mds, H⟩ := ih _ _ _ _ _ _ _ h
          obtain ⟨v, ds, ha, hO⟩ := step_sound TB HC HR hs
          refine ⟨_, _, _, _, _, _, Trk.cons (v := v) (ob := none) (r := []) (m := s1.mods) H (.inr (.inr ⟨hw, he, rfl, rfl, ds, s1, ha, hO, rfl, rfl⟩)) (fun p => by simp) (fun p => tagL_mem) (fun p hp hb => apartB_spec hap p hp hb) (fun p _ hp => by simp at hp)⟩
        | false =>
          rw [he] at h
          simp only [cond_false] at h
          obtain ⟨hap, h⟩ := bif_some h
          obtain ⟨σ, τ, V, al, rds, mds, H⟩ := ih _ _ _ _ _ _ _ h
          unfold stepA at hs
          cases ho : opA tb.ty (bare s) a.tm o.op with
          | none => rw [ho] at hs; cases hs
          | some q =>
            obtain ⟨r, s2⟩ := q
            rw [ho] at hs
            obtain ⟨v, rfl, hq⟩ := quiet_op TB he (fun a' b x t u hop => by
              rw [hop] at ho he
              exact conv_apart (x := evO a.tm x) he rfl (by
                intro e
                have h2 : convA tb.ty (bare s) (Nat.beq a' b) (tyD tb.ty (some a')) (tyD tb.ty (some b)) (evO a.tm x) = some (r, s2) := ho
                rw [e] at h2; cases h2) t u) ho
            cases hs
            have hcase : (s1 = bare s ∧ joinMods s s1 = s) ∨ ∃ ob, s1 = (bare s).alloc ob ∧ joinMods s s1 = s.alloc ob ∧ newO tb.ty o.op = true := by
              rcases hq.1 with rfl | ⟨ob, rfl⟩
              · exact .inl ⟨rfl, rfl⟩
              · refine .inr ⟨ob, rfl, rfl, ?_⟩
                cases hn : newO tb.ty o.op with
                | true => rfl
                | false => exact absurd (not_new he hn ho) alloc_ne
            have hU := hq.unbare
            rcases hcase with ⟨_, e⟩ | ⟨ob, _, e, hn⟩
            · exact ⟨_, _, _, _, _, _, Trk.cons (v := v) (ob := none) (r := readsA a.tm o.op) (m := []) H (.inr (.inl ⟨hw, he, rfl, rfl, rfl, .inl ⟨rfl, e⟩, hU⟩)) (fun p => tagL_mem) (fun p => by simp) (fun p _ hp => by simp at hp) (fun p hp hb => apartB_spec hap p hp hb)⟩
            · exact ⟨_, _, _, _, _, _, Trk.cons (v := v) (ob := some ob) (r := readsA a.tm o.op) (m := []) H (.inr (.inl ⟨hw, he, rfl, rfl, rfl, .inr ⟨ob, rfl, e, hn⟩, hU⟩)) (fun p => tagL_mem) (fun p => by simp) (fun p _ hp => by simp at hp) (fun p hp hb => apartB_spec hap p hp hb)⟩
end Go.Proofs.Ae
namespace Go.Proofs.Ae
variable {P : Program} {tb : Tb}
theorem wp_ex {F : Fence} (hF : F.depth = none) {o : Oper} {c : Act} {w : World} {X : Prop} (h : o.wpIn F 0 P c w (fun _ _ => X) (fun _ _ _ => False)) : X := by
  have hroom : ∀ n, F.room n := fun n d hd => by rw [hF] at hd; cases hd
  obtain ⟨_, h⟩ := h
  cases hr : (o.semAt F.round c.eval).run P w with
  | halt x w' => rw [hr] at h; cases x <;> exact h.elim
  | ok nx w' =>
    rw [hr] at h
    cases nx with
    | value v => exact h
    | skip => exact h
    | defer d => exact h
    | enter f args =>
      obtain ⟨_, h2⟩ := h
      obtain ⟨e, w'', fr, hR, _⟩ := h2.2 [] (hroom _)
      cases e with
      | returned v => exact hR
      | panicked ch => exact hR.elim
      | outgrown => obtain ⟨_, _, h⟩ := hR; exact h.elim
    | row row args =>
      obtain ⟨_, h2⟩ := h
      obtain ⟨v, w'', hR, _⟩ := h2 default [] (hroom _)
      exact hR
    | round l f tmps as body =>
      obtain ⟨_, h2⟩ := h
      obtain ⟨e, w'', hR, _⟩ := h2.2 default [] (hroom _)
      cases e with
      | returned v => exact hR
      | panicked ch => exact hR.elim
      | outgrown => obtain ⟨_, _, h⟩ := hR; exact h.elim
    | _ => exact h.elim
section
variable {ops : Array Oper} {a0 a1 : AA} {s0 s1 : St} {σ : Nat → St} {τ : Nat → AA} {V : Nat → Value} {al : Nat → Option AObj} {rd md : Nat → List Nat}
abbrev Tk (P : Program) (tb : Tb) (ops : Array Oper) (a0 a1 : AA) (s0 s1 : St) (σ : Nat → St) (τ : Nat → AA) (V : Nat → Value) (al : Nat → Option AObj) (rd md : Nat → List Nat) : Prop :=
  Trk P tb ops.toList ops.toList 0 [] [] a0 a1 s0 s1 σ τ V al rd md
theorem Tk.stp (H : Tk P tb ops a0 a1 s0 s1 σ τ V al rd md) {j : Nat} {o : Oper} (ho : ops[j]? = some o) : StepOk P tb ops.toList o (σ j) (σ (j + 1)) (τ j) (τ (j + 1)) (V j) (al j) (rd j) (md j) :=
  H.step j o (by rw [Array.getElem?_toList]; exact ho)
theorem Ev.ofJoin {s s1 : St} (h : Ev (bare s) s1) : Ev s (joinMods s s1) where
  next := h.next
  dom := h.dom
  domNew := h.domNew
  mods i hi := by show i ∈ s1.mods ++ s.mods; simp [hi]
  kept i o ho hn := h.kept i o ho (fun hm => hn (by show i ∈ s1.mods ++ s.mods; simp [hm]))
theorem Tk.ev (H : Tk P tb ops a0 a1 s0 s1 σ τ V al rd md) {j : Nat} {o : Oper} (ho : ops[j]? = some o) (hok : (σ j).Ok) : Ev (σ j) (σ (j + 1)) := by
  rcases H.stp ho with ⟨_, _, _, h, _⟩ | ⟨_, _, _, _, _, h, _⟩ | ⟨_, _, _, _, ds, s2, _, h, h2, _⟩
  · rw [h]; exact Ev.refl _
  · rcases h with ⟨_, h⟩ | ⟨ob, _, h, _⟩
    · rw [h]; exact Ev.refl _
    · rw [h]; exact Ev.alloc _ hok.fresh
  · rw [h2]; exact (h.1 hok).ofJoin
theorem Tk.evs (H : Tk P tb ops a0 a1 s0 s1 σ τ V al rd md) (hok : s0.Ok) : ∀ j, j ≤ ops.size → (σ j).Ok ∧ Ev s0 (σ j)
  | 0, _ => by rw [H.startS]; exact ⟨hok, Ev.refl _⟩
  | j + 1, hj => by
    obtain ⟨h1, h2⟩ := Tk.evs H hok j (by omega)
    have ho : ops[j]? = some ops[j] := by rw [Array.getElem?_eq_getElem (by omega)]
    have h3 := H.ev ho h1
    exact ⟨h3.ok h1, h2.trans h3⟩
theorem Tk.range (H : Tk P tb ops a0 a1 s0 s1 σ τ V al rd md) (hok : s0.Ok) {i : Nat} : ∀ d, i + d ≤ ops.size → Ev (σ i) (σ (i + d))
  | 0, _ => Ev.refl _
  | d + 1, hd => by
    have ho : ops[i + d]? = some ops[i + d] := by rw [Array.getElem?_eq_getElem (by omega)]
    exact (Tk.range H hok d (by omega)).trans (H.ev ho (H.evs hok _ (by omega)).1)
theorem Tk.le (H : Tk P tb ops a0 a1 s0 s1 σ τ V al rd md) (hok : s0.Ok) {i j : Nat} (hij : i ≤ j) (hj : j ≤ ops.size) : Ev (σ i) (σ j) := by
  have := H.range hok (i := i) (j - i) (by omega)
  rwa [show i + (j - i) = j from by omega] at this
theorem Tk.rnd (H : Tk P tb ops a0 a1 s0 s1 σ τ V al rd md) : ∀ j, j ≤ ops.size → (τ j).rnd = a0.rnd
  | 0, _ => by rw [H.startA]
  | j + 1, hj => by
    have ho : ops[j]? = some ops[j] := by rw [Array.getElem?_eq_getElem (by omega)]
    have ih := Tk.rnd H j (by omega)
    rcases H.stp ho with ⟨_, h, _⟩ | ⟨_, _, h, _⟩ | ⟨_, _, _, _, ds, s2, h, _⟩
    · rw [h, put_rnd]; exact ih
    · rw [h, put_rnd]; exact ih
    · rw [h, put_rnd]; exact ih
theorem Tk.keeps (H : Tk P tb ops a0 a1 s0 s1 σ τ V al rd md) (hok : s0.Ok) {i : Nat} {o : AObj} {p : Nat} (h : (σ p).get i = some o) : ∀ d, p + d ≤ ops.size → (∀ k, p ≤ k → k < p + d → i ∉ md k) → (σ (p + d)).get i = some o
  | 0, _, _ => h
  | d + 1, hd, hm => by
    have ho : ops[p + d]? = some ops[p + d] := by rw [Array.getElem?_eq_getElem (by omega)]
    have ih := Tk.keeps H hok h d (by omega) (fun k h1 h2 => hm k h1 (by omega))
    have hokj := (H.evs hok (p + d) (by omega)).1
    have hmk := hm (p + d) (by omega) (by omega)
    rcases H.stp ho with ⟨_, _, _, h, _⟩ | ⟨_, _, _, _, _, h, _⟩ | ⟨_, _, _, _, ds, s2, _, h, h2, h3⟩
    · rw [show p + (d + 1) = p + d + 1 from rfl, h]; exact ih
    · rcases h with ⟨_, h⟩ | ⟨ob, _, h, _⟩
      · rw [show p + (d + 1) = p + d + 1 from rfl, h]; exact ih
      · rw [show p + (d + 1) = p + d + 1 from rfl, h, St.get_alloc_ne _ _ _ (ne_of_hdom hokj.fresh (hdom_of ih))]; exact ih
    · rw [show p + (d + 1) = p + d + 1 from rfl, h2, joinMods_get]
      rw [h3] at hmk
      exact (h.1 hokj).kept i o ih hmk
theorem Tk.keep (H : Tk P tb ops a0 a1 s0 s1 σ τ V al rd md) (hok : s0.Ok) {i : Nat} {o : AObj} {p q : Nat} (hpq : p ≤ q) (hq : q ≤ ops.size) (h : (σ p).get i = some o) (hm : ∀ k, p ≤ k → k < q → i ∉ md k) : (σ q).get i = some o := by
  have := H.keeps hok h (q - p) (by omega) (fun k h1 h2 => hm k h1 (by omega))
  rwa [show p + (q - p) = q from by omega] at this
theorem Tk.quiet (H : Tk P tb ops a0 a1 s0 s1 σ τ V al rd md) {j : Nat} {o : Oper} (ho : ops[j]? = some o) (he : effB o.op = false) : md j = [] ∧ ((al j = none ∧ σ (j + 1) = σ j) ∨ ∃ ob, al j = some ob ∧ σ (j + 1) = (σ j).alloc ob ∧ newO tb.ty o.op = true) := by
  rcases H.stp ho with ⟨_, _, _, h, h1, _, h2⟩ | ⟨_, _, _, _, h1, h, _⟩ | ⟨_, h, _⟩
  · exact ⟨h2, .inl ⟨h1, h⟩⟩
  · exact ⟨h1, h⟩
  · rw [he] at h; cases h
theorem Tk.mdEff (H : Tk P tb ops a0 a1 s0 s1 σ τ V al rd md) {j : Nat} {o : Oper} (ho : ops[j]? = some o) {i : Nat} (hi : i ∈ md j) : effB o.op = true := by
  cases he : effB o.op with
  | true => rfl
  | false => rw [(H.quiet ho he).1] at hi; simp at hi
theorem Tk.alNew (H : Tk P tb ops a0 a1 s0 s1 σ τ V al rd md) {j : Nat} {o : Oper} (ho : ops[j]? = some o) {ob : AObj} (h : al j = some ob) : newO tb.ty o.op = true ∧ effB o.op = false ∧ σ (j + 1) = (σ j).alloc ob := by
  rcases H.stp ho with ⟨_, _, _, _, h1, _⟩ | ⟨_, he, _, _, _, h2, _⟩ | ⟨_, _, h1, _⟩
  · rw [h1] at h; cases h
  · rcases h2 with ⟨h1, _⟩ | ⟨ob', h1, h3, h4⟩
    · rw [h1] at h; cases h
    · rw [h1] at h; cases h; exact ⟨h4, he, h3⟩
  · rw [h1] at h; cases h
theorem Tk.worlds (H : Tk P tb ops a0 a1 s0 s1 σ τ V al rd md) {N : Nat} {F : Fence} (hF : FOk a0.rnd F) (hops : ∀ o ∈ ops.toList, opOk tb N o = true) {ι : Io} {w : World} {c : Act} (hok : s0.Ok) (G : Good tb ι s0.get w) (A : AOk ι s0.get N a0 c) :
    ∀ j, j ≤ ops.size → ∃ ι w c, Good tb ι (σ j).get w ∧ AOk ι (σ j).get N (τ j) c
  | 0, _ => by rw [H.startS, H.startA]; exact ⟨ι, w, c, G, A⟩
  | j + 1, hj => by
    obtain ⟨ι1, w1, c1, G1, A1⟩ := Tk.worlds H hF hops hok G A j (by omega)
    have ho : ops[j]? = some ops[j] := by rw [Array.getElem?_eq_getElem (by omega)]
    have hop := hops ops[j] (by simp)
    have hokj := (H.evs hok j (by omega)).1
    have hrho := A1.rho G1 (opOk_args hop)
    rcases H.stp ho with ⟨_, h, _, h2, _⟩ | ⟨_, _, h, _, _, h2, hq⟩ | ⟨_, _, _, _, ds, s2, h, h2, h3, _⟩
    · rw [h, h2]; exact ⟨ι1, w1, _, G1, A1.put (opOk_dst hop) (inD_undef _)⟩
    · obtain ⟨ι', g', w', k1, k2, k3, k4⟩ := hq.2 ι1 _ w1 c1.eval G1 (fun _ _ => rfl) hrho (fun _ => hokj.fresh)
      have hg : g' = (σ (j + 1)).get := by
        rcases k4 with ⟨e, rfl⟩ | ⟨ob, e, rfl⟩
        · rw [e]
        · rw [e, St.get_alloc]
      subst hg
      rw [h]
      exact ⟨ι', w', _, k2.good, (A1.ext k2).put (opOk_dst hop) k3⟩
    · have hrn := H.rnd j (by omega)
      refine wp_ex (F := F) hF.2.1 (h2.2 F ι1 w1 c1 (fun _ _ => _) (fun _ _ _ => False) hokj G1 hrho (by rw [hrn]; exact hF) fun ι' w' xs E hv hd hdi => ?_)
      rw [h, h3]
      exact ⟨ι', w', _, E.good, ((A1.ext E).push hd hdi).put (opOk_dst hop) hv⟩
end
end Go.Proofs.Ae
namespace Go.Proofs.Ae
variable {P : Program} {tb : Tb}
theorem memT_of : ∀ {l : List Tmp} {t : Tmp}, t ∈ l → memT (some t) l = true
  | [], t, h => by cases h
  | x :: l, t, h => by
    change Bool.rec (motive := fun _ => Bool) (memT (some t) l) true (Nat.beq x t) = true
    rcases List.mem_cons.1 h with rfl | h
    · simp
    · cases Nat.beq x t with
      | true => rfl
      | false => exact memT_of h
theorem bound1 {a b : Nd} {t : Tmp} (h : a.dst = some t) (k : t ∈ b.sees) : bound a b = true := by
  unfold bound; rw [h, memT_of k]; simp
theorem bound2 {a b : Nd} {t : Tmp} (h : b.dst = some t) (k : t ∈ a.sees) : bound a b = true := by
  unfold bound; rw [h, memT_of k]; simp
theorem bound3 {a b : Nd} {t : Tmp} (h : a.dst = some t) (k : b.dst = some t) : bound a b = true := by
  unfold bound; rw [h, k]; simp [sameT]
theorem bound4 {a b : Nd} (h : a.eff = true) (k : b.eff = true) : bound a b = true := by
  unfold bound; rw [h, k]; simp
theorem bound5 {a b : Nd} (h : a.new = true) (k : b.eff = true) : bound a b = true := by
  unfold bound; rw [h, k]; simp
theorem edgeB_spec : ∀ {es : List Edge} {j : Nat}, edgeB es j = true → ∃ e ∈ es, Region.binds .any e = true ∧ e.on = j
  | [], j, h => by cases h
  | e :: es, j, h => by
    change Bool.rec (motive := fun _ => Bool) (edgeB es j) true (Nat.beq e.on j && Region.binds .any e) = true at h
    cases hb : (Nat.beq e.on j && Region.binds .any e) with
    | true =>
      rw [Bool.and_eq_true] at hb
      exact ⟨e, by simp, hb.2, Nat.eq_of_beq_eq_true hb.1⟩
    | false =>
      rw [hb] at h
      obtain ⟨e', h1, h2⟩ := edgeB_spec (es := es) h
      exact ⟨e', by simp [h1], h2⟩
theorem cloN_done {ops : List Oper} {S : Nat → Prop} (hc : ∀ k o, ops[k]? = some o → S k → ∀ e ∈ o.after.toList, Region.binds .any e = true → S e.on) : ∀ (n : Nat) (es : List Edge), (∀ e ∈ es, Region.binds .any e = true → S e.on) → ∀ e ∈ cloN ops n es, Region.binds .any e = true → S e.on
  | 0, es, h, e, he, hb => h e he hb
  | n + 1, es, h, e, he, hb => by
    have key : ∀ l : List Edge, (∀ e ∈ l, Region.binds .any e = true → S e.on) → ∀ e ∈ (List.rec (motive := fun _ => List Edge) [] (fun e _ acc => (bif Region.binds .any e then (match ops[e.on]? with | some o => cloN ops n o.after.toList | none => []) else []) ++ acc) l : List Edge), Region.binds .any e = true → S e.on := by
      intro l
      induction l with
      | nil => intro _ e he; cases he
      | cons d l ih =>
        intro hl e he hb
        change e ∈ (bif Region.binds .any d then (match ops[d.on]? with | some o => cloN ops n o.after.toList | none => []) else []) ++ _ at he
        rcases List.mem_append.1 he with he | he
        · cases hd : Region.binds .any d with
          | false => rw [hd] at he; cases he
          | true =>
            rw [hd, cond_true] at he
            cases ho : ops[d.on]? with
            | none => rw [ho] at he; cases he
            | some o =>
              rw [ho] at he
              exact cloN_done hc n _ (fun e' he' hb' => hc _ o ho (hl d (by simp) hd) e' he' hb') e he hb
        · exact ih (fun e' he' => hl e' (by simp [he'])) e he hb
    change e ∈ es ++ _ at he
    rcases List.mem_append.1 he with he | he
    · exact h e he hb
    · exact key es h e he hb
def dstOf (ops : Array Oper) (k : Nat) : Option Tmp := (ops[k]?).bind (·.dst)
def tmL (ops : Array Oper) (V : Nat → Value) (tm0 : Nat → Value) (L : Nat → Bool) : Nat → Nat → Value
  | 0, t => tm0 t
  | k + 1, t => if L k = true ∧ dstOf ops k = some t then V k else tmL ops V tm0 L k t
theorem tmL_succ (ops : Array Oper) (V : Nat → Value) (tm0 : Nat → Value) (L : Nat → Bool) (k t : Nat) : tmL ops V tm0 L (k + 1) t = if L k = true ∧ dstOf ops k = some t then V k else tmL ops V tm0 L k t := rfl
section
variable {ops : Array Oper} {a0 a1 : AA} {s0 s1 : St} {σ : Nat → St} {τ : Nat → AA} {V : Nat → Value} {al : Nat → Option AObj} {rd md : Nat → List Nat} {L : Nat → Bool}
theorem put_tm (a : AA) (d : Option Tmp) (v : Value) (t : Nat) : tmA (a.put d v).tm t = if d = some t then v else tmA a.tm t := by
  cases d with
  | none => simp [AA.put]
  | some d =>
    change tmA (a.tm.set d v) t = _
    rw [tmA_set]
    by_cases e : t = d
    · subst e; simp
    · rw [if_neg e, if_neg (by simp; exact fun h => e h.symm)]
theorem Tk.tm (H : Tk P tb ops a0 a1 s0 s1 σ τ V al rd md) {j : Nat} {o : Oper} (ho : ops[j]? = some o) (t : Nat) : tmA (τ (j + 1)).tm t = if dstOf ops j = some t then V j else tmA (τ j).tm t := by
  have hd : dstOf ops j = o.dst := by unfold dstOf; rw [ho]; rfl
  rw [hd]
  rcases H.stp ho with ⟨_, h, h1, _⟩ | ⟨_, _, h, _⟩ | ⟨_, _, _, _, ds, s2, h, _⟩
  · rw [h, h1, put_tm]
  · rw [h, put_tm]
  · rw [h, put_tm]
theorem Tk.df (H : Tk P tb ops a0 a1 s0 s1 σ τ V al rd md) {j : Nat} {o : Oper} (ho : ops[j]? = some o) (he : effB o.op = false) : (τ (j + 1)).df = (τ j).df := by
  rcases H.stp ho with ⟨_, h, _⟩ | ⟨_, _, h, _⟩ | ⟨_, h, _⟩
  · rw [h]; cases o.dst <;> rfl
  · rw [h]; cases o.dst <;> rfl
  · rw [he] at h; cases h
theorem Tk.dfs (H : Tk P tb ops a0 a1 s0 s1 σ τ V al rd md) {p : Nat} : ∀ d, p + d ≤ ops.size → (∀ k o, p ≤ k → k < p + d → ops[k]? = some o → effB o.op = false) → (τ (p + d)).df = (τ p).df
  | 0, _, _ => rfl
  | d + 1, hd, hn => by
    have ho : ops[p + d]? = some ops[p + d] := by rw [Array.getElem?_eq_getElem (by omega)]
    rw [show p + (d + 1) = p + d + 1 from rfl, H.df ho (hn _ _ (by omega) (by omega) ho)]
    exact Tk.dfs H d (by omega) (fun k o h1 h2 => hn k o h1 (by omega))
theorem Tk.tmAll (H : Tk P tb ops a0 a1 s0 s1 σ τ V al rd md) (hL : ∀ k, k < ops.size → L k = true) (t : Nat) : ∀ k, k ≤ ops.size → tmL ops V (tmA a0.tm) L k t = tmA (τ k).tm t
  | 0, _ => by rw [H.startA]; rfl
  | k + 1, hk => by
    have ho : ops[k]? = some ops[k] := by rw [Array.getElem?_eq_getElem (by omega)]
    rw [H.tm ho]
    unfold tmL
    simp only [hL k (by omega), true_and]
    rw [Tk.tmAll H hL t k (by omega)]
theorem Closed.ready (hc : Closed ops L) {k : Nat} {o : Oper} (ho : ops[k]? = some o) (hL : L k = true) : ReadyAt L o := fun e he hb => hc k o ho hL e he hb
theorem Tk.sees1 (D : DrawOk tb.ty ops) (H : Tk P tb ops a0 a1 s0 s1 σ τ V al rd md) (hc : Closed ops L) {j : Nat} {o : Oper} (ho : ops[j]? = some o) (hr : ReadyAt L o) {t : Tmp} (ht : t ∈ seesL ops.toList o) :
    ∀ k, k ≤ j → tmL ops V (tmA a0.tm) L k t = tmA (τ k).tm t
  | 0, _ => by rw [H.startA]; rfl
  | k + 1, hk => by
    have hlt := (Array.getElem?_eq_some_iff.1 ho).1
    have hok : ops[k]? = some ops[k] := by rw [Array.getElem?_eq_getElem (by omega)]
    rw [H.tm hok]
    unfold tmL
    by_cases hd : dstOf ops k = some t
    · have hd2 : ops[k].dst = some t := by unfold dstOf at hd; rw [hok] at hd; exact hd
      have := D.bnd k j _ _ (by omega) hok ho (bound1 (t := t) hd2 ht) L hc hr
      rw [if_pos ⟨this, hd⟩, if_pos hd]
    · rw [if_neg (fun h => hd h.2), if_neg hd]
      exact Tk.sees1 D H hc ho hr ht k (by omega)
theorem Tk.sees2 (D : DrawOk tb.ty ops) (H : Tk P tb ops a0 a1 s0 s1 σ τ V al rd md) (hc : Closed ops L) {j : Nat} {o : Oper} (ho : ops[j]? = some o) (hL : L j = false) {t : Tmp} (ht : t ∈ seesL ops.toList o) :
    ∀ d, j + d ≤ ops.size → tmL ops V (tmA a0.tm) L (j + d) t = tmL ops V (tmA a0.tm) L j t
  | 0, _ => rfl
  | d + 1, hd => by
    have hok : ops[j + d]? = some ops[j + d] := by rw [Array.getElem?_eq_getElem (by omega)]
    rw [show j + (d + 1) = j + d + 1 from rfl]
    rw [tmL_succ, if_neg, Tk.sees2 D H hc ho hL ht d (by omega)]
    · rintro ⟨h1, h2⟩
      have hd2 : ops[j + d].dst = some t := by unfold dstOf at h2; rw [hok] at h2; exact h2
      rcases Nat.eq_zero_or_pos d with rfl | hpos
      · rw [show j + 0 = j from rfl, hL] at h1; cases h1
      · have := D.bnd j (j + d) _ _ (by omega) ho hok (bound2 (t := t) hd2 ht) L hc (hc.ready hok h1)
        rw [hL] at this; cases this
theorem Tk.sees (D : DrawOk tb.ty ops) (H : Tk P tb ops a0 a1 s0 s1 σ τ V al rd md) (hc : Closed ops L) {j : Nat} {o : Oper} (ho : ops[j]? = some o) (hr : ReadyAt L o) (hL : L j = false) {t : Tmp} (ht : t ∈ seesL ops.toList o) :
    tmL ops V (tmA a0.tm) L ops.size t = tmA (τ j).tm t := by
  have hlt := (Array.getElem?_eq_some_iff.1 ho).1
  have h1 := Tk.sees2 D H hc ho hL ht (ops.size - j) (by omega)
  rw [show j + (ops.size - j) = ops.size from by omega] at h1
  rw [h1]
  exact H.sees1 D hc ho hr ht j (Nat.le_refl _)
def addL (L : Nat → Bool) (j : Nat) : Nat → Bool := fun k => if k = j then true else L k
theorem Closed.add (hc : Closed ops L) {j : Nat} {o : Oper} (ho : ops[j]? = some o) (hr : ReadyAt L o) : Closed ops (addL L j) := by
  intro k ok hok hL e he hb
  unfold addL at *
  by_cases h1 : e.on = j
  · rw [if_pos h1]
  · rw [if_neg h1]
    by_cases hk : k = j
    · subst hk
      rw [ho] at hok; cases hok
      exact hr e he hb
    · rw [if_neg hk] at hL
      exact hc k ok hok hL e he hb
theorem tmL_add_low {tm0 : Nat → Value} {j : Nat} (t : Nat) : ∀ k, k ≤ j → tmL ops V tm0 (addL L j) k t = tmL ops V tm0 L k t
  | 0, _ => rfl
  | k + 1, hk => by
    unfold tmL
    rw [tmL_add_low t k (by omega)]
    unfold addL
    rw [if_neg (by omega : ¬ k = j)]
theorem Tk.tmAdd (D : DrawOk tb.ty ops) (hc : Closed ops L) {tm0 : Nat → Value} {j : Nat} {o : Oper} (ho : ops[j]? = some o) (hL : L j = false) (t : Nat) :
    tmL ops V tm0 (addL L j) ops.size t = if o.dst = some t then V j else tmL ops V tm0 L ops.size t := by
  have hlt := (Array.getElem?_eq_some_iff.1 ho).1
  have hdo : dstOf ops j = o.dst := by unfold dstOf; rw [ho]; rfl
  have key : ∀ d, j + 1 + d ≤ ops.size → tmL ops V tm0 (addL L j) (j + 1 + d) t = if o.dst = some t then V j else tmL ops V tm0 L (j + 1 + d) t := by
    intro d
    induction d with
    | zero =>
      intro _
      rw [show j + 1 + 0 = j + 1 from rfl]
      unfold tmL
      rw [tmL_add_low t j (Nat.le_refl _), hdo]
      have : addL L j j = true := by unfold addL; rw [if_pos rfl]
      rw [this, hL]
      by_cases hd : o.dst = some t
      · rw [if_pos ⟨rfl, hd⟩, if_pos hd]
      · rw [if_neg (fun h => hd h.2), if_neg hd, if_neg (fun h => hd h.2)]
    | succ d ih =>
      intro hd
      have hok : ops[j + 1 + d]? = some ops[j + 1 + d] := by rw [Array.getElem?_eq_getElem (by omega)]
      rw [show j + 1 + (d + 1) = j + 1 + d + 1 from rfl]
      rw [tmL_succ, tmL_succ, ih (by omega)]
      have ha : addL L j (j + 1 + d) = L (j + 1 + d) := by unfold addL; rw [if_neg (by omega)]
      rw [ha]
      by_cases h : L (j + 1 + d) = true ∧ dstOf ops (j + 1 + d) = some t
      · rw [if_pos h, if_pos h]
        by_cases hdt : o.dst = some t
        · exfalso
          have hd2 : ops[j + 1 + d].dst = some t := by have := h.2; unfold dstOf at this; rw [hok] at this; exact this
          have := D.bnd j (j + 1 + d) _ _ (by omega) ho hok (bound3 (t := t) hdt hd2) L hc (hc.ready hok h.1)
          rw [hL] at this; cases this
        · rw [if_neg hdt]
      · rw [if_neg h, if_neg h]
  have := key (ops.size - (j + 1)) (by omega)
  rwa [show j + 1 + (ops.size - (j + 1)) = ops.size from by omega] at this
structure GInv (tb : Tb) (ops : Array Oper) (σ : Nat → St) (al : Nat → Option AObj) (L : Nat → Bool) (p : Nat) (g : Hp) : Prop where
  le : p ≤ ops.size
  old : ∀ i o, (σ p).get i = some o → g i = some o
  new : ∀ j o, p ≤ j → j < ops.size → L j = true → al j = some o → g (σ j).next = some o
  only : ∀ i, hdom g i → hdom (σ p).get i ∨ ∃ j o, p ≤ j ∧ j < ops.size ∧ L j = true ∧ al j = some o ∧ i = (σ j).next
  effs : ∀ k o, ops[k]? = some o → effB o.op = true → (k < p ↔ L k = true)
  news : ∀ k o, ops[k]? = some o → newO tb.ty o.op = true → k < p → L k = true
theorem Tk.at (H : Tk P tb ops a0 a1 s0 s1 σ τ V al rd md) (hok : s0.Ok) {p q : Nat} {g : Hp} (hG : GInv tb ops σ al L p g) (hpq : p ≤ q) (hq : q ≤ ops.size) (hne : ∀ k o, p ≤ k → k < q → ops[k]? = some o → effB o.op = false)
    (hnew : ∀ k o, p ≤ k → k < q → ops[k]? = some o → newO tb.ty o.op = true → L k = true) (hlate : ∀ k o, q ≤ k → ops[k]? = some o → newO tb.ty o.op = true → effB o.op = false → L k = false) : g = (σ q).get := by
  have fwd : ∀ d, p + d ≤ q → ∀ i o, (σ (p + d)).get i = some o → g i = some o := by
    intro d
    induction d with
    | zero => intro _ i o h; exact hG.old i o h
    | succ d ih =>
      intro hd i o h
      have ho : ops[p + d]? = some ops[p + d] := by rw [Array.getElem?_eq_getElem (by omega)]
      rw [show p + (d + 1) = p + d + 1 from rfl] at h
      rcases (H.quiet ho (hne _ _ (by omega) (by omega) ho)).2 with ⟨_, hs⟩ | ⟨ob, hal, hs, hnw⟩
      · rw [hs] at h; exact ih (by omega) i o h
      · rw [hs] at h
        by_cases e : i = (σ (p + d)).next
        · subst e
          rw [St.get_alloc_self] at h
          cases h
          exact hG.new _ _ (by omega) (by omega) (hnew _ _ (by omega) (by omega) ho hnw) hal
        · rw [St.get_alloc_ne _ _ _ e] at h
          exact ih (by omega) i o h
  have hmd : ∀ i k, p ≤ k → k < q → i ∉ md k := fun i k h1 h2 hi => by
    have ho : ops[k]? = some ops[k] := by rw [Array.getElem?_eq_getElem (by omega)]
    have := H.mdEff ho hi
    rw [hne k _ h1 h2 ho] at this; cases this
  funext i
  apply Option.ext
  intro o
  constructor
  · intro h
    rcases hG.only i (hdom_of h) with hd | ⟨k, o', h1, h2, h3, h4, rfl⟩
    · obtain ⟨o', ho'⟩ := get_of_hdom hd
      have := hG.old i o' ho'
      rw [h] at this; cases this
      exact H.keep hok hpq hq ho' (fun k h1 h2 => hmd i k h1 h2)
    · have ho : ops[k]? = some ops[k] := by rw [Array.getElem?_eq_getElem h2]
      obtain ⟨hn, hne', hs⟩ := H.alNew ho h4
      rcases Nat.lt_or_ge k q with hlt | hge
      · have := hG.new k o' h1 h2 h3 h4
        rw [h] at this; cases this
        exact H.keep hok (p := k + 1) (by omega) hq (by rw [hs, St.get_alloc_self]) (fun k' h5 h6 => hmd _ k' (by omega) h6)
      · have := hlate k _ hge ho hn hne'
        rw [h3] at this; cases this
  · intro h
    have := fwd (q - p) (by omega) i o
    rw [show p + (q - p) = q from by omega] at this
    exact this h
end
end Go.Proofs.Ae
namespace Go.Proofs.Ae
variable {P : Program} {tb : Tb}
theorem ptrB_in {D : Nat → Nat → Prop} {v : Value} (h : inD D v) {b : Nat} (hb : b ∈ ptrB v) : ∃ k, D b k := by
  unfold ptrB at hb
  split at hb
  · simp at hb; subst hb; simp only [inD] at h; exact ⟨_, h⟩
  · simp at hb; subst hb; simp only [inD] at h; exact ⟨_, h⟩
  · simp at hb; subst hb; simp only [inD] at h; exact ⟨_, h⟩
  · simp at hb
theorem readsA_in {D : Nat → Nat → Prop} {tm : Tr Value} {o : Op} (h : ∀ x ∈ o.operands.toList, inD D (evO tm x)) {b : Nat} (hb : b ∈ readsA tm o) : ∃ k, D b k := by
  unfold readsA at hb
  split at hb
  · exact ptrB_in (h _ (by simp [Op.operands])) hb
  · exact ptrB_in (h _ (by simp [Op.operands])) hb
  · exact ptrB_in (h _ (by simp [Op.operands])) hb
  · rename_i c
    split at hb
    · rename_i x hx
      refine ptrB_in ?_ hb
      have : x ∈ evL tm c.args.toList := by rw [hx]; simp
      rw [evL_eq] at this
      obtain ⟨y, hy, rfl⟩ := List.mem_map.1 this
      exact h y (by simp [Op.operands, Call.operands]; cases c.callee <;> simp <;> first | exact .inr (by simpa using hy) | simpa using hy)
    · simp at hb
  · rename_i op t x y yt
    rcases List.mem_append.1 hb with hb | hb
    · exact ptrB_in (h _ (by simp [Op.operands])) hb
    · exact ptrB_in (h _ (by simp [Op.operands])) hb
  · simp at hb
section
variable {ops : Array Oper} {a0 a1 : AA} {s0 s1 : St} {σ : Nat → St} {τ : Nat → AA} {V : Nat → Value} {al : Nat → Option AObj} {rd md : Nat → List Nat} {L : Nat → Bool}
structure DInv (tb : Tb) (ops : Array Oper) (N : Nat) (a0 : AA) (s0 s1 : St) (σ : Nat → St) (τ : Nat → AA) (V : Nat → Value) (al : Nat → Option AObj) (ι0 : Io) (w0 : World) (L : Nat → Bool) (c : Act) (w : World) (ι : Io) (g : Hp) (p : Nat) : Prop where
  closed : Closed ops L
  ext : Ext tb ι0 s0.get w0 ι g w s1.mods
  heap : GInv tb ops σ al L p g
  size : c.tmps.size = N
  tm : ∀ t, c.tmps.getD t undef = conc ι (tmL ops V (tmA a0.tm) L ops.size t)
  tin : ∀ t, inD (roomy ι g) (tmL ops V (tmA a0.tm) L ops.size t)
  df : DfsOk ι (τ p).df c.defers
  din : ∀ d ∈ (τ p).df, dfIn (roomy ι g) d
variable {N : Nat} {ι0 : Io} {w0 : World}
theorem DInv.rho (D : DrawOk tb.ty ops) (H : Tk P tb ops a0 a1 s0 s1 σ τ V al rd md) {c : Act} {w : World} {ι : Io} {g : Hp} {p : Nat} (h : DInv tb ops N a0 s0 s1 σ τ V al ι0 w0 L c w ι g p) {j : Nat} {o : Oper} (ho : ops[j]? = some o) (hr : ReadyAt L o) (hL : L j = false) (hop : opOk tb N o = true) :
    RhoOk ι (roomy ι g) (τ j).tm c.eval o.op.operands.toList := by
  intro x hx
  have hok := opOk_args hop x hx
  cases x with
  | tmp t =>
    have ht : t ∈ seesL ops.toList o := List.mem_append_left _ (List.mem_filterMap.2 ⟨.tmp t, hx, rfl⟩)
    have := H.sees D h.closed ho hr hL ht
    refine ⟨?_, ?_⟩
    · change c.tmps.getD t undef = conc ι (tmA (τ j).tm t)
      rw [h.tm t, this]
    · change inD _ (tmA (τ j).tm t)
      rw [← this]; exact h.tin t
  | const v => exact ⟨(conc_zero ι (plainV_ok hok)).symm, inD_False (plainV_ok hok)⟩
  | global i =>
    obtain ⟨h1, h2, h3⟩ := h.ext.good.glob i hok
    exact ⟨by simp [Act.eval, evO, conc, addrC, h2, h3], by simp only [evO, inD]; exact ⟨h1, Nat.zero_le _⟩⟩
  | func f => exact ⟨by simp [Act.eval, evO, conc, fnC], by simp [evO, inD]⟩
theorem DInv.wanted (D : DrawOk tb.ty ops) (H : Tk P tb ops a0 a1 s0 s1 σ τ V al rd md) {c : Act} {w : World} {ι : Io} {g : Hp} {p : Nat} (h : DInv tb ops N a0 s0 s1 σ τ V al ι0 w0 L c w ι g p) {j : Nat} {o : Oper} (ho : ops[j]? = some o) (hr : ReadyAt L o) (hL : L j = false) :
    Region.wanted o (yielded ops c.tmps) = wantedA ops.toList o.guard (τ j).tm := by
  refine wanted_eq (ι := ι) fun k want og d hg hk hd => ?_
  have ht : d ∈ seesL ops.toList o := List.mem_append_right _ (by rw [hg]; simp [hk, hd])
  rw [h.tm d, H.sees D h.closed ho hr hL ht]
theorem DInv.reads (D : DrawOk tb.ty ops) (H : Tk P tb ops a0 a1 s0 s1 σ τ V al rd md) (hok : s0.Ok) {c : Act} {w : World} {ι : Io} {g : Hp} {p : Nat} (h : DInv tb ops N a0 s0 s1 σ τ V al ι0 w0 L c w ι g p) {j : Nat} {o : Oper} (ho : ops[j]? = some o) (hr : ReadyAt L o) (hL : L j = false) (hop : opOk tb N o = true) (he : effB o.op = false)
    (hW : ∃ ι w c, Good tb ι (σ j).get w ∧ AOk ι (σ j).get N (τ j) c) (hrd : rd j = readsA (τ j).tm o.op) : ∀ b ∈ readsA (τ j).tm o.op, g b = (σ j).get b := by
  intro b hb
  have hlt := (Array.getElem?_eq_some_iff.1 ho).1
  obtain ⟨ι1, w1, c1, G1, A1⟩ := hW
  obtain ⟨k1, hk1⟩ := readsA_in (fun x hx => (A1.rho G1 (opOk_args hop) x hx).2) hb
  obtain ⟨ob, hob⟩ := get_of_hdom hk1.1
  obtain ⟨k2, hk2⟩ := readsA_in (fun x hx => (h.rho D H ho hr hL hop x hx).2) hb
  have hgb := hk2.1
  have hbr : b ∈ rd j := by rw [hrd]; exact hb
  rw [hob]
  have late : ∀ q, p ≤ q → ∀ k, q ≤ k → k < j → b ∉ md k := fun q hq k hk1 hk2 hm => by
    have hok2 : ops[k]? = some ops[k] := by rw [Array.getElem?_eq_getElem (by omega)]
    have heff := H.mdEff hok2 hm
    have hed := H.ap2 k j o hk2 (by rw [Array.getElem?_toList]; exact ho) b hbr hm
    obtain ⟨e, h1, h2, h3⟩ := edgeB_spec hed
    have h4 := cloN_done (S := fun k => L k = true) (fun k o' hk hLk e he hb => h.closed k o' (by simpa using hk) hLk e (by simpa using he) hb) 8 _ (fun e he hb => hr e (by simpa using he) hb) e h1 h2
    rw [h3, Nat.zero_add] at h4
    have := (h.heap.effs k _ hok2 heff).2 h4
    omega
  rcases Nat.lt_or_ge j p with hjp | hpj
  · refine h.heap.old b ob (H.keep hok (by omega) h.heap.le hob fun k h1 h2 hm => ?_)
    have hks : k < ops.size := by have := h.heap.le; omega
    have hok2 : ops[k]? = some ops[k] := by rw [Array.getElem?_eq_getElem hks]
    have heff := H.mdEff hok2 hm
    have hjk : j < k := by
      rcases Nat.lt_or_ge j k with h | h
      · exact h
      · have : k = j := by omega
        subst this
        rw [ho] at hok2; cases hok2
        rw [he] at heff; cases heff
    have hed := H.ap1 j k _ hjk (by rw [Array.getElem?_toList]; exact hok2) b hm hbr
    obtain ⟨e, h3, h4, h5⟩ := edgeB_spec hed
    have h6 := cloN_done (S := fun k => L k = true) (fun k o' hk hLk e he hb => h.closed k o' (by simpa using hk) hLk e (by simpa using he) hb) 8 _ (fun e he hb => h.closed k _ hok2 ((h.heap.effs k _ hok2 heff).1 h2) e (by simpa using he) hb) e h3 h4
    rw [h5, Nat.zero_add, hL] at h6
    cases h6
  · rcases h.heap.only b hgb with hd | ⟨k, o', h1, h2, h3, h4, rfl⟩
    · obtain ⟨o', ho'⟩ := get_of_hdom hd
      have := H.keep hok hpj (by omega) ho' (late p (Nat.le_refl _))
      rw [hob] at this; cases this
      exact h.heap.old _ _ ho'
    · have hok2 : ops[k]? = some ops[k] := by rw [Array.getElem?_eq_getElem h2]
      obtain ⟨_, _, hs⟩ := H.alNew hok2 h4
      rcases Nat.lt_trichotomy k j with hlt2 | heq | hgt
      · have := H.keep hok (p := k + 1) (q := j) (by omega) (by omega) (by rw [hs, St.get_alloc_self]) (fun k' h5 h6 => late (k + 1) (by omega) k' h5 h6)
        rw [hob] at this; cases this
        exact h.heap.new k _ h1 h2 h3 h4
      · subst heq; rw [hL] at h3; cases h3
      · have hn := (H.evs hok j (by omega)).1 _ (hdom_of hob)
        have hle := (H.le hok (i := j) (j := k) (by omega) (by omega)).next
        omega
theorem DInv.put {c c' : Act} {w w' : World} {ι ι' : Io} {g g' : Hp} {p p' : Nat} (D : DrawOk tb.ty ops) (H : Tk P tb ops a0 a1 s0 s1 σ τ V al rd md) (h : DInv tb ops N a0 s0 s1 σ τ V al ι0 w0 L c w ι g p) {j : Nat} {o : Oper} (ho : ops[j]? = some o) (hr : ReadyAt L o) (hL : L j = false) (hop : opOk tb N o = true)
    {M : List Nat} (E : Ext tb ι g w ι' g' w' M) (hM : ∀ i ∈ M, i ∈ s1.mods) (hG : GInv tb ops σ al (addL L j) p' g') (hv : inD (roomy ι' g') (V j)) (ht : c'.tmps = c.tmps) (hdf : DfsOk ι' (τ p').df c'.defers) (hdi : ∀ d ∈ (τ p').df, dfIn (roomy ι' g') d) :
    DInv tb ops N a0 s0 s1 σ τ V al ι0 w0 (addL L j) (c'.put o.dst (conc ι' (V j))) w' ι' g' p' := by
  have hc : ∀ t, conc ι' (tmL ops V (tmA a0.tm) L ops.size t) = conc ι (tmL ops V (tmA a0.tm) L ops.size t) := fun t => conc_congr (D := roomy ι g) (fun i k hi => E.agree i hi.1) _ (h.tin t)
  refine ⟨h.closed.add ho hr, h.ext.trans (E.more hM) (fun i hi => hi), hG, ?_, fun t => ?_, fun t => ?_, ?_, hdi⟩
  · cases o.dst <;> simp [Act.put, ht, h.size]
  · rw [Tk.tmAdd D h.closed ho hL t]
    cases hd : o.dst with
    | none =>
      rw [if_neg (by simp), hc t, ← h.tm t, ← ht]; rfl
    | some d =>
      have hdN := opOk_dst hop
      rw [hd] at hdN
      have hlt := dst_lt hdN
      by_cases e : d = t
      · subst e
        rw [if_pos rfl]
        simp [Act.put, Array.getD_eq_getD_getElem?, Array.getElem?_setIfInBounds, ht, h.size, hlt]
      · rw [if_neg (by simp; exact e), hc t, ← h.tm t, ← ht]
        simp [Act.put, Array.getD_eq_getD_getElem?, Array.getElem?_setIfInBounds, e]
  · rw [Tk.tmAdd D h.closed ho hL t]
    by_cases hd : o.dst = some t
    · rw [if_pos hd]; exact hv
    · rw [if_neg hd]; exact inD_mono E.rm _ (h.tin t)
  · cases o.dst <;> exact hdf
theorem GInv.quiet (D : DrawOk tb.ty ops) (H : Tk P tb ops a0 a1 s0 s1 σ τ V al rd md) (hok : s0.Ok) {p : Nat} {g : Hp} (h : GInv tb ops σ al L p g) {j : Nat} {o : Oper} (ho : ops[j]? = some o) (hL : L j = false) (he : effB o.op = false) :
    (al j = none → GInv tb ops σ al (addL L j) p g) ∧ (∀ ob, al j = some ob → g (σ j).next = none ∧ GInv tb ops σ al (addL L j) p (hset g (σ j).next ob)) := by
  have hlt := (Array.getElem?_eq_some_iff.1 ho).1
  have heffs : ∀ k ok, ops[k]? = some ok → effB ok.op = true → (k < p ↔ addL L j k = true) := fun k ok hk hke => by
    have hne : k ≠ j := fun e => by subst e; rw [ho] at hk; cases hk; rw [he] at hke; cases hke
    unfold addL; rw [if_neg hne]; exact h.effs k ok hk hke
  have hnews : ∀ k ok, ops[k]? = some ok → newO tb.ty ok.op = true → k < p → addL L j k = true := fun k ok hk hn hkp => by
    unfold addL
    by_cases e : k = j
    · rw [if_pos e]
    · rw [if_neg e]; exact h.news k ok hk hn hkp
  constructor
  · intro hal
    refine ⟨h.le, h.old, fun k ob h1 h2 h3 h4 => ?_, fun i hi => ?_, heffs, hnews⟩
    · have hne : k ≠ j := fun e => by subst e; rw [hal] at h4; cases h4
      unfold addL at h3; rw [if_neg hne] at h3
      exact h.new k ob h1 h2 h3 h4
    · rcases h.only i hi with hd | ⟨k, o', h1, h2, h3, h4⟩
      · exact .inl hd
      · refine .inr ⟨k, o', h1, h2, ?_, h4⟩
        unfold addL
        by_cases e : k = j
        · rw [if_pos e]
        · rw [if_neg e]; exact h3
  · intro ob hal
    obtain ⟨hn, _, hs⟩ := H.alNew ho hal
    have hpj : p ≤ j := by
      rcases Nat.lt_or_ge j p with h1 | h1
      · have := h.news j o ho hn h1
        rw [hL] at this; cases this
      · exact h1
    have dist : ∀ k o', k < ops.size → L k = true → al k = some o' → (σ k).next ≠ (σ j).next := fun k o' hk hLk hak e => by
      have hok2 : ops[k]? = some ops[k] := by rw [Array.getElem?_eq_getElem hk]
      obtain ⟨_, _, hsk⟩ := H.alNew hok2 hak
      rcases Nat.lt_trichotomy k j with h1 | h1 | h1
      · have := (H.le hok (i := k + 1) (j := j) (by omega) (by omega)).next
        rw [hsk, St.next_alloc] at this
        omega
      · subst h1; rw [hL] at hLk; cases hLk
      · have := (H.le hok (i := j + 1) (j := k) (by omega) (by omega)).next
        rw [hs, St.next_alloc] at this
        omega
    have hfr : g (σ j).next = none := by
      cases hg : g (σ j).next with
      | none => rfl
      | some x =>
        rcases h.only _ (hdom_of hg) with hd | ⟨k, o', h1, h2, h3, h4, h5⟩
        · have h6 := (H.evs hok p h.le).1 _ hd
          have h7 := (H.le hok hpj (by omega)).next
          omega
        · exact absurd h5.symm (dist k o' h2 h3 h4)
    refine ⟨hfr, h.le, fun i x hx => ?_, fun k o' h1 h2 h3 h4 => ?_, fun i hi => ?_, heffs, hnews⟩
    · have := h.old i x hx
      rw [hset_ne _ _ _ _ (ne_of_hdom hfr (hdom_of this))]; exact this
    · by_cases e : k = j
      · subst e
        rw [hal] at h4; cases h4
        exact hset_self _ _ _
      · unfold addL at h3; rw [if_neg e] at h3
        rw [hset_ne _ _ _ _ (dist k o' h2 h3 h4)]
        exact h.new k o' h1 h2 h3 h4
    · by_cases e : i = (σ j).next
      · refine .inr ⟨j, ob, hpj, hlt, ?_, hal, e⟩
        unfold addL; rw [if_pos rfl]
      · unfold hdom at hi; rw [hset_ne _ _ _ _ e] at hi
        rcases h.only i hi with hd | ⟨k, o', h1, h2, h3, h4⟩
        · exact .inl hd
        · refine .inr ⟨k, o', h1, h2, ?_, h4⟩
          unfold addL
          by_cases e : k = j
          · rw [if_pos e]
          · rw [if_neg e]; exact h3
abbrev laterId (σ : Nat → St) (g : Hp) (j : Nat) (i : Nat) : Prop := hdom g i ∧ ¬ hdom (σ j).get i
open Classical in
noncomputable def joinG (σ : Nat → St) (g : Hp) (j : Nat) : Hp := fun i => if hdom g i ∧ ¬ hdom (σ j).get i then g i else (σ (j + 1)).get i
open Classical in
theorem GInv.eff (D : DrawOk tb.ty ops) (H : Tk P tb ops a0 a1 s0 s1 σ τ V al rd md) (hok : s0.Ok) {p : Nat} {g : Hp} (hc : Closed ops L) (h : GInv tb ops σ al L p g) {j : Nat} {o : Oper} (ho : ops[j]? = some o) (hr : ReadyAt L o) (hL : L j = false) (he : effB o.op = true) :
    (∀ i x, (σ j).get i = some x → g i = some x) ∧ (∀ i, laterId σ g j i → (σ (j + 1)).next ≤ i) ∧ (τ j).df = (τ p).df ∧ GInv tb ops σ al (addL L j) (j + 1) (joinG σ g j) := by
  have hlt := (Array.getElem?_eq_some_iff.1 ho).1
  have hpj : p ≤ j := by
    rcases Nat.lt_or_ge j p with h1 | h1
    · have := (h.effs j o ho he).1 h1
      rw [hL] at this; cases this
    · exact h1
  have hne : ∀ k ok, p ≤ k → k < j → ops[k]? = some ok → effB ok.op = false := fun k ok h1 h2 hk => by
    cases hke : effB ok.op with
    | false => rfl
    | true =>
      have := D.bnd k j _ _ h2 hk ho (bound4 hke he) L hc hr
      have := (h.effs k ok hk hke).2 this
      omega
  have hnew : ∀ k ok, k < j → ops[k]? = some ok → newO tb.ty ok.op = true → L k = true := fun k ok h2 hk hn => D.bnd k j _ _ h2 hk ho (bound5 hn he) L hc hr
  have hlateE : ∀ k ok, j < k → ops[k]? = some ok → effB ok.op = true → L k = false := fun k ok h2 hk hn => by
    cases hLk : L k with
    | false => rfl
    | true =>
      have := D.bnd j k _ _ (by omega) ho hk (bound4 he hn) L hc (hc.ready hk hLk)
      rw [hL] at this; cases this
  have hmd : ∀ i k, p ≤ k → k < j → i ∉ md k := fun i k h1 h2 hi => by
    have hok2 : ops[k]? = some ops[k] := by rw [Array.getElem?_eq_getElem (by omega)]
    have := H.mdEff hok2 hi
    rw [hne k _ h1 h2 hok2] at this; cases this
  have fwd : ∀ d, p + d ≤ j → ∀ i x, (σ (p + d)).get i = some x → g i = some x := by
    intro d
    induction d with
    | zero => intro _ i x hx; exact h.old i x hx
    | succ d ih =>
      intro hd i x hx
      have hok2 : ops[p + d]? = some ops[p + d] := by rw [Array.getElem?_eq_getElem (by omega)]
      rw [show p + (d + 1) = p + d + 1 from rfl] at hx
      rcases (H.quiet hok2 (hne _ _ (by omega) (by omega) hok2)).2 with ⟨_, hs⟩ | ⟨ob, hal, hs, hnw⟩
      · rw [hs] at hx; exact ih (by omega) i x hx
      · rw [hs] at hx
        by_cases e : i = (σ (p + d)).next
        · subst e
          rw [St.get_alloc_self] at hx
          cases hx
          exact h.new _ _ (by omega) (by omega) (hnew _ _ (by omega) hok2 hnw) hal
        · rw [St.get_alloc_ne _ _ _ e] at hx
          exact ih (by omega) i x hx
  have hsub : ∀ i x, (σ j).get i = some x → g i = some x := by
    have := fwd (j - p) (by omega)
    rwa [show p + (j - p) = j from by omega] at this
  have hlater : ∀ i, laterId σ g j i → ∃ k x, j < k ∧ k < ops.size ∧ L k = true ∧ al k = some x ∧ i = (σ k).next := fun i hi => by
    rcases h.only i hi.1 with hd | ⟨k, x, h1, h2, h3, h4, h5⟩
    · exfalso
      obtain ⟨x, hx⟩ := get_of_hdom hd
      exact hi.2 (hdom_of (H.keep hok hpj (by omega) hx (fun k h1 h2 => hmd i k h1 h2)))
    · refine ⟨k, x, ?_, h2, h3, h4, h5⟩
      have hok2 : ops[k]? = some ops[k] := by rw [Array.getElem?_eq_getElem h2]
      obtain ⟨_, hke, hs⟩ := H.alNew hok2 h4
      rcases Nat.lt_trichotomy k j with hlt2 | heq | hgt
      · exfalso
        have := H.keep hok (p := k + 1) (q := j) (by omega) (by omega) (by rw [hs, St.get_alloc_self]) (fun k' h6 h7 => hmd _ k' (by omega) h7)
        rw [← h5] at this
        exact hi.2 (hdom_of this)
      · subst heq; rw [hL] at h3; cases h3
      · exact hgt
  have hge : ∀ i, laterId σ g j i → (σ (j + 1)).next ≤ i := fun i hi => by
    obtain ⟨k, x, h1, h2, _, _, h5⟩ := hlater i hi
    rw [h5]
    exact (H.le hok (i := j + 1) (j := k) (by omega) (by omega)).next
  have hlt1 : ∀ i, hdom (σ (j + 1)).get i → i < (σ (j + 1)).next := (H.evs hok (j + 1) (by omega)).1
  refine ⟨hsub, hge, ?_, ?_⟩
  · have := H.dfs (p := p) (j - p) (by omega) (fun k ok h1 h2 hk => hne k ok h1 (by omega) hk)
    rwa [show p + (j - p) = j from by omega] at this
  · refine ⟨by omega, fun i x hx => ?_, fun k x h1 h2 h3 h4 => ?_, fun i hi => ?_, fun k ok hk hke => ?_, fun k ok hk hn hkj => ?_⟩
    · unfold joinG
      rw [if_neg (fun hl => by have := hge i hl; have := hlt1 i (hdom_of hx); omega)]
      exact hx
    · have hne2 : k ≠ j := by omega
      unfold addL at h3; rw [if_neg hne2] at h3
      have hg := h.new k x (by omega) h2 h3 h4
      have hl : laterId σ g j (σ k).next := ⟨hdom_of hg, fun hd => by
        have h6 := (H.evs hok j (by omega)).1 _ hd
        have h7 := (H.le hok (i := j) (j := k) (by omega) (by omega)).next
        omega⟩
      unfold joinG
      rw [if_pos hl]
      exact hg
    · by_cases hl : laterId σ g j i
      · obtain ⟨k, x, h1, h2, h3, h4, h5⟩ := hlater i hl
        refine .inr ⟨k, x, by omega, h2, ?_, h4, h5⟩
        unfold addL; rw [if_neg (by omega)]; exact h3
      · have hi2 : (if hdom g i ∧ ¬ hdom (σ j).get i then g i else (σ (j + 1)).get i) ≠ none := hi
        rw [if_neg hl] at hi2
        exact .inl hi2
    · unfold addL
      by_cases e : k = j
      · rw [if_pos e]; simp; omega
      · rw [if_neg e]
        rcases Nat.lt_or_ge k j with h1 | h1
        · constructor
          · intro _
            rcases Nat.lt_or_ge k p with h2 | h2
            · exact (h.effs k ok hk hke).1 h2
            · have := hne k ok h2 h1 hk; rw [hke] at this; cases this
          · intro _; omega
        · have := hlateE k ok (by omega) hk hke
          rw [this]
          simp; omega
    · unfold addL
      by_cases e : k = j
      · rw [if_pos e]
      · rw [if_neg e]; exact hnew k ok (by omega) hk hn
end
theorem inD_and {D D' : Nat → Nat → Prop} : ∀ v : Value, inD D v → inD D' v → inD (fun i k => D i k ∧ D' i k) v
  | .pointer (some a), h, k => by simp only [inD] at h k ⊢; exact ⟨h, k⟩
  | .slice (some a) n cap, h, k => by simp only [inD] at h k ⊢; exact ⟨h, k⟩
  | .map (some r), h, k => by simp only [inD] at h k ⊢; exact ⟨h, k⟩
  | .func f first cap, h, k => by
    simp only [inD] at h k ⊢
    exact ⟨fun l e => ⟨h.1 l e, k.1 l e⟩, fun v hm => inD_and v (h.2.1 v hm) (k.2.1 v hm), fun v hm => inD_and v (h.2.2 v hm) (k.2.2 v hm)⟩
  | .iface t v, h, k => by simp only [inD] at h k ⊢; exact inD_and v h k
  | .agg cs, h, k => by simp only [inD] at h k ⊢; exact fun v hm => inD_and v (h v hm) (k v hm)
  | .tuple cs, h, k => by simp only [inD] at h k ⊢; exact fun v hm => inD_and v (h v hm) (k v hm)
  | .bool _, _, _ | .int _ _, _, _ | .float _ _, _, _ | .complex _ _ _, _, _ | .string _, _, _ | .pointer none, _, _ | .slice none _ _, _, _ | .map none, _, _ | .chan _, _, _ | .nilFunc, _, _ | .nilIface, _, _ => by simp only [inD]
theorem AObj.inD_and {D D' : Nat → Nat → Prop} {o : AObj} (h : o.inD D) (k : o.inD D') : o.inD (fun i k => D i k ∧ D' i k) := by
  cases o with
  | cells c m => exact fun v hv => Ae.inD_and v (h v hv) (k v hv)
  | map es => exact fun p hp => ⟨Ae.inD_and _ (h p hp).1 (k p hp).1, Ae.inD_and _ (h p hp).2 (k p hp).2⟩
  | loop state p fid tm params assign body d => exact ⟨fun t => Ae.inD_and _ (h.1 t) (k.1 t), h.2, k.2⟩
  | _ => trivial
theorem roomy_and {ι ι1 : Io} {g h : Hp} : ∀ i k, (roomy ι g i k ∧ roomy ι1 h i k) → roomy ι h i k := fun i k hh => ⟨hh.2.1, hh.1.2⟩
theorem Good.part {ι ι1 : Io} {g h : Hp} {w w1 : World} (G : Good tb ι g w) (T : Good tb ι1 h w1) (hs : ∀ i o, h i = some o → g i = some o) : Good tb ι h w :=
  ⟨fun i o ho => G.obj i o (hs i o ho), fun i o j o' h1 h2 => G.apart i o j o' (hs i o h1) (hs j o' h2), fun i o ho => AObj.inD_mono roomy_and (AObj.inD_and (G.closed i o (hs i o ho)) (T.closed i o ho)), fun i hi => ⟨(T.glob i hi).1, (G.glob i hi).2⟩⟩
open Classical in
theorem Ext.beside {ι ι1 : Io} {g h h1 : Hp} {w w1 : World} {M : List Nat} (G : Good tb ι g w) (hs : ∀ i o, h i = some o → g i = some o) (E : Ext tb ι h w ι1 h1 w1 M) (hd : ∀ i, hdom g i → ¬ hdom h i → ¬ hdom h1 i) (Gh : Good tb ι h w) :
    Ext tb ι g w (fun i => if hdom g i ∧ ¬ hdom h i then ι i else ι1 i) (fun i => if hdom g i ∧ ¬ hdom h i then g i else h1 i) w1 M := by
  have hin : ∀ i, hdom h i → hdom g i := fun i hi => by obtain ⟨o, ho⟩ := get_of_hdom hi; exact hdom_of (hs i o ho)
  have ag : ∀ i, hdom g i → (fun i => if hdom g i ∧ ¬ hdom h i then ι i else ι1 i) i = ι i := fun i hi => by
    by_cases hr : hdom g i ∧ ¬ hdom h i
    · simp only [if_pos hr]
    · have : hdom h i := Classical.byContradiction fun hn => hr ⟨hi, hn⟩
      simp only [if_neg hr, E.agree i this]
  have ag1 : ∀ i, hdom h1 i → (fun i => if hdom g i ∧ ¬ hdom h i then ι i else ι1 i) i = ι1 i := fun i hi => by
    by_cases hr : hdom g i ∧ ¬ hdom h i
    · exact absurd hi (hd i hr.1 hr.2)
    · simp only [if_neg hr]
  have dm : ∀ i, hdom g i → hdom (fun i => if hdom g i ∧ ¬ hdom h i then g i else h1 i) i := fun i hi => by
    show (if hdom g i ∧ ¬ hdom h i then g i else h1 i) ≠ none
    by_cases hr : hdom g i ∧ ¬ hdom h i
    · rw [if_pos hr]; exact hi
    · have : hdom h i := Classical.byContradiction fun hn => hr ⟨hi, hn⟩
      rw [if_neg hr]; exact E.dom i this
  have dm1 : ∀ i, hdom h1 i → hdom (fun i => if hdom g i ∧ ¬ hdom h i then g i else h1 i) i := fun i hi => by
    show (if hdom g i ∧ ¬ hdom h i then g i else h1 i) ≠ none
    by_cases hr : hdom g i ∧ ¬ hdom h i
    · exact absurd hi (hd i hr.1 hr.2)
    · rw [if_neg hr]; exact hi
  have oldS : ∀ i o, hdom h i → h1 i = some o → o.solid = true → ∃ o', h i = some o' ∧ o'.solid = true := fun i o hi ho hso => by
    obtain ⟨o', ho'⟩ := get_of_hdom hi
    refine ⟨o', ho', ?_⟩
    cases hw : o'.writable with
    | true => exact solid_of_writable hw
    | false => have := E.stay i o' ho' hw; rw [this] at ho; cases ho; exact hso
  have oldW : ∀ i o, hdom h i → h1 i = some o → o.writable = true → ∃ o', h i = some o' ∧ o'.writable = true := fun i o hi ho hwo => by
    obtain ⟨o', ho'⟩ := get_of_hdom hi
    refine ⟨o', ho', ?_⟩
    cases hw : o'.writable with
    | true => rfl
    | false => have := E.stay i o' ho' hw; rw [this] at ho; cases ho; rw [hw] at hwo; cases hwo
  have newB : ∀ i o j oj, ¬ hdom h i → h1 i = some o → o.solid = true → g j = some oj → ¬ hdom h j → oj.solid = true → (ι j).block ≠ (ι1 i).block := fun i o j oj hi ho hso hj hnj hsj => by
    rcases E.fresh i o hi ho hso with hb | ⟨B, oB, hB, hBg, hBw, hBe⟩
    · have := (G.obj j oj hj).lt hsj
      omega
    · rw [← hBe]
      exact G.apart B oB j oj (hs B oB hBg) hj hBw hsj (fun e => hnj (by rw [e]; exact hdom_of hBg))
  refine ⟨⟨fun i o ho => ?_, fun i o j o' hi hj hwi hsj hne => ?_, fun i o ho => ?_, fun i hi => ?_⟩, ag, dm, fun i o ho hw => ?_, E.size, E.os, E.tape, E.output, fun b hb hn => E.frame b hb (fun i hi o ho hw => hn i hi o (hs i o ho) hw), fun i o hn ho hso => ?_⟩
  · by_cases hr : hdom g i ∧ ¬ hdom h i
    · simp only [if_pos hr] at ho ⊢
      refine (G.obj i o ho).mono (D := roomy ι g) (fun k r hk => ag k hk.1) (G.closed i o ho) fun hso => ?_
      refine E.frame _ ((G.obj i o ho).lt hso) fun k hk ok hok hwk e => ?_
      exact G.apart k ok i o (hs k ok hok) ho hwk hso (fun e' => hr.2 (by rw [e']; exact hdom_of hok)) e.symm
    · simp only [if_neg hr] at ho ⊢
      exact (E.good.obj i o ho).mono (D := roomy ι1 h1) (fun k r hk => ag1 k hk.1) (E.good.closed i o ho) fun _ => rfl
  · by_cases hri : hdom g i ∧ ¬ hdom h i
    · by_cases hrj : hdom g j ∧ ¬ hdom h j
      · simp only [if_pos hri] at hi ⊢
        simp only [if_pos hrj] at hj ⊢
        exact G.apart i o j o' hi hj hwi hsj hne
      · simp only [if_pos hri] at hi ⊢
        simp only [if_neg hrj] at hj ⊢
        by_cases hoj : hdom h j
        · obtain ⟨oj, hoj', hsj'⟩ := oldS j o' hoj hj hsj
          rw [E.agree j hoj]
          exact G.apart i o j oj hi (hs j oj hoj') hwi hsj' hne
        · exact fun e => newB j o' i o hoj hj hsj hi hri.2 (solid_of_writable hwi) e.symm
    · by_cases hrj : hdom g j ∧ ¬ hdom h j
      · simp only [if_neg hri] at hi ⊢
        simp only [if_pos hrj] at hj ⊢
        by_cases hoi : hdom h i
        · obtain ⟨oi, hoi', hwi'⟩ := oldW i o hoi hi hwi
          rw [E.agree i hoi]
          exact G.apart i oi j o' (hs i oi hoi') hj hwi' hsj hne
        · exact newB i o j o' hoi hi (solid_of_writable hwi) hj hrj.2 hsj
      · simp only [if_neg hri] at hi ⊢
        simp only [if_neg hrj] at hj ⊢
        exact E.good.apart i o j o' hi hj hwi hsj hne
  · by_cases hr : hdom g i ∧ ¬ hdom h i
    · simp only [if_pos hr] at ho
      exact AObj.inD_mono (roomy_mono ag dm) (G.closed i o ho)
    · simp only [if_neg hr] at ho
      exact AObj.inD_mono (roomy_mono ag1 dm1) (E.good.closed i o ho)
  · have h2 := Gh.glob i hi
    have h3 := hin i h2.1
    have h4 := ag i h3
    simp only at h4
    refine ⟨dm i h3, ?_⟩
    simp only [h4]
    exact h2.2
  · by_cases hr : hdom g i ∧ ¬ hdom h i
    · simp only [if_pos hr]; exact ho
    · have hh : hdom h i := Classical.byContradiction fun hn => hr ⟨hdom_of ho, hn⟩
      obtain ⟨o', ho'⟩ := get_of_hdom hh
      have := hs i o' ho'
      rw [ho] at this; cases this
      simp only [if_neg hr]
      exact E.stay i o ho' hw
  · have hr : ¬ (hdom g i ∧ ¬ hdom h i) := fun hr => hn hr.1
    simp only [if_neg hr] at ho ⊢
    have hnh : ¬ hdom h i := fun hh => hn (hin i hh)
    rcases E.fresh i o hnh ho hso with hb | ⟨B, oB, hB, hBg, h4⟩
    · exact .inl hb
    · exact .inr ⟨B, oB, hB, hs B oB hBg, h4⟩
end Go.Proofs.Ae
