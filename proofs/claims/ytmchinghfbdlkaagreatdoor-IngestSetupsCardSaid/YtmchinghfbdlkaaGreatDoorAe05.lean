/- A part of the proof that the program's function answers true: lemmas (Sim28 to Sx) on carrying the program out over names of memory objects. No condition. -/
import Derived.Test.YtmchinghfbdlkaaGreatDoorAe04
import Derived.RecoverIn
set_option linter.unusedVariables false
set_option linter.unusedSimpArgs false
namespace Go.Proofs.Ae
variable {P : Program} {tb : Tb}
def cntU (L : Nat → Bool) : Nat → Nat
  | 0 => 0
  | k + 1 => cntU L k + if L k = true then 0 else 1
theorem cntU_add_ge {L : Nat → Bool} {j : Nat} : ∀ k, k ≤ j → cntU (addL L j) k = cntU L k
  | 0, _ => rfl
  | k + 1, hk => by
    unfold cntU
    rw [cntU_add_ge k (by omega)]
    unfold addL
    rw [if_neg (by omega : ¬ k = j)]
theorem cntU_add {L : Nat → Bool} {j : Nat} (hL : L j = false) : ∀ k, j < k → cntU (addL L j) k + 1 = cntU L k
  | 0, hk => by omega
  | k + 1, hk => by
    unfold cntU
    by_cases e : k = j
    · subst e
      rw [cntU_add_ge k (Nat.le_refl _), hL]
      simp [addL]
    · have ih := cntU_add hL k (by omega)
      unfold addL at *
      rw [if_neg e]
      omega
theorem cntU_zero {L : Nat → Bool} : ∀ k, cntU L k = 0 → ∀ i, i < k → L i = true
  | 0, _, i, hi => by omega
  | k + 1, h, i, hi => by
    unfold cntU at h
    have h2 : L k = true := by
      cases hk : L k with
      | true => rfl
      | false => rw [hk] at h; simp at h
    by_cases e : i = k
    · subst e; exact h2
    · exact cntU_zero k (by omega) i (by omega)
theorem cntU_le (L : Nat → Bool) : ∀ k, cntU L k ≤ k
  | 0 => Nat.le_refl _
  | k + 1 => by
    unfold cntU
    have := cntU_le L k
    split <;> omega
def Lf (listed : Array Bool) : Nat → Bool := fun j => listed.getD j false
theorem Lf_set {listed : Array Bool} {i : Nat} (hi : i < listed.size) : Lf (listed.setIfInBounds i true) = addL (Lf listed) i := by
  funext j
  unfold Lf addL
  by_cases e : j = i
  · subst e
    rw [if_pos rfl]
    simp [Array.getD_eq_getD_getElem?, Array.getElem?_setIfInBounds, hi]
  · rw [if_neg e]
    simp [Array.getD_eq_getD_getElem?, Array.getElem?_setIfInBounds, Ne.symm e]
section
variable {ops : Array Oper} {a0 a1 : AA} {s0 s1 : St} {σ : Nat → St} {τ : Nat → AA} {V : Nat → Value} {al : Nat → Option AObj} {rd md : Nat → List Nat} {N : Nat} {ι0 : Io} {w0 : World}
theorem Tk.mdMods (H : Tk P tb ops a0 a1 s0 s1 σ τ V al rd md) (hok : s0.Ok) {j : Nat} {o : Oper} (ho : ops[j]? = some o) : (∀ i ∈ (σ (j + 1)).mods, i ∈ s1.mods) := by
  have hlt := (Array.getElem?_eq_some_iff.1 ho).1
  have := (H.le hok (i := j + 1) (j := ops.size) (by omega) (Nat.le_refl _)).mods
  have hf := H.finS
  rw [Array.length_toList] at hf
  rw [hf] at this
  exact this
open Classical in
theorem draw_step (D : DrawOk tb.ty ops) (H : Tk P tb ops a0 a1 s0 s1 σ τ V al rd md) (hok : s0.Ok) {F : Fence} (hF : FOk a0.rnd F) (hops : ∀ o ∈ ops.toList, opOk tb N o = true)
    (hW : ∀ j, j ≤ ops.size → ∃ ι w c, Good tb ι (σ j).get w ∧ AOk ι (σ j).get N (τ j) c) {L : Nat → Bool} {c : Act} {w : World} {ι : Io} {g : Hp} {p : Nat} (h : DInv tb ops N a0 s0 s1 σ τ V al ι0 w0 L c w ι g p)
    {j : Nat} {o : Oper} (ho : ops[j]? = some o) (hr : ReadyAt L o) (hL : L j = false) {K : Act → World → Prop} {Q : Exit → Act → World → Prop}
    (hK : ∀ c' w' ι' g' p', DInv tb ops N a0 s0 s1 σ τ V al ι0 w0 (addL L j) c' w' ι' g' p' → K c' w') : wpOpIn F 0 P ops Q j K c w := by
  have hlt := (Array.getElem?_eq_some_iff.1 ho).1
  have hop : opOk tb N o = true := hops o (by
    have : ops[j] = o := (Array.getElem?_eq_some_iff.1 ho).2
    rw [← this]; simp)
  have hab : ∀ f, o.about P w c.eval = some f → F.fn f := about_ok hF.1 _ _ _
  have hokj := (H.evs hok j (by omega)).1
  unfold wpOpIn
  rw [ho]
  simp only
  rw [h.wanted D H ho hr hL]
  cases he : effB o.op with
  | false =>
    have hq := GInv.quiet D H hok h.heap ho hL he
    have hdf : (τ p).df = (τ p).df := rfl
    rcases H.stp ho with ⟨hw, _, hV, _, hal, _⟩ | ⟨hw, _, _, hrd, _, hal, hQ⟩ | ⟨_, he2, _⟩
    · rw [hw]
      simp only [Bool.false_eq_true, if_false]
      refine ⟨hab, ?_⟩
      have := h.put (c' := c) D H ho hr hL hop (Ext.refl h.ext.good []) (by simp) (hq.1 hal) (by rw [hV]; exact inD_undef _) rfl h.df h.din
      rw [hV, conc_undef] at this
      exact hK _ _ _ _ _ this
    · rw [hw]
      simp only [if_true]
      have hno : ∀ d, o.op ≠ .defer d := fun d e => by rw [e] at he; simp [effB] at he
      obtain ⟨ι', g', w', k1, k2, k3, k4⟩ := hQ.2 ι g w c.eval h.ext.good (h.reads D H hok ho hr hL hop he (hW j (by omega)) hrd) (h.rho D H ho hr hL hop) (fun ⟨ob, e⟩ => by
        rcases hal with ⟨_, e2⟩ | ⟨ob', h1, e2, _⟩
        · rw [e2] at e; exact absurd e.symm alloc_ne
        · exact (hq.2 ob' h1).1)
      refine ⟨hab, ?_⟩
      rw [Oper.semAt_eq _ _ _ hno, k1]
      have hG : GInv tb ops σ al (addL L j) p g' := by
        rcases hal with ⟨h1, e2⟩ | ⟨ob', h1, e2, _⟩
        · rcases k4 with ⟨_, rfl⟩ | ⟨ob, e, _⟩
          · exact hq.1 h1
          · rw [e2] at e; exact absurd e.symm alloc_ne
        · rcases k4 with ⟨e, _⟩ | ⟨ob, e, rfl⟩
          · rw [e2] at e; exact absurd e alloc_ne
          · rw [e2] at e
            have := alloc_inj e
            subst this
            exact (hq.2 _ h1).2
      exact hK _ _ _ _ _ (h.put (c' := c) D H ho hr hL hop k2 (by simp) hG k3 rfl (h.df.congr (D := roomy ι g) (fun i k hi => k2.agree i hi.1) h.din) (fun d hd => dfIn_mono k2.rm (h.din d hd)))
    · rw [he] at he2; cases he2
  | true =>
    obtain ⟨hsub, hge, hdf, hG⟩ := GInv.eff D H hok h.closed h.heap ho hr hL he
    obtain ⟨ιT, wT, cT, GT, AT⟩ := hW j (by omega)
    rcases H.stp ho with ⟨hw, hτ, hV, hσ, _⟩ | ⟨_, he2, _⟩ | ⟨hw, _, _, _, ds, s2, hτ, hO, hσ, hmd⟩
    · rw [hw]
      simp only [Bool.false_eq_true, if_false]
      refine ⟨hab, ?_⟩
      have hjg : joinG σ g j = g := by
        funext i
        unfold joinG
        by_cases hl : laterId σ g j i
        · rw [if_pos hl]
        · rw [if_neg hl, hσ]
          cases hgi : (σ j).get i with
          | some x => exact (hsub i x hgi).symm
          | none =>
            cases hgi2 : g i with
            | none => rfl
            | some x => exact absurd ⟨hdom_of hgi2, fun hd => hd hgi⟩ hl
      have hG2 : GInv tb ops σ al (addL L j) (j + 1) g := by rw [hjg] at hG; exact hG
      have hdf2 : (τ (j + 1)).df = (τ p).df := by rw [← hdf, hτ]; cases o.dst <;> rfl
      have := h.put (c' := c) D H ho hr hL hop (Ext.refl h.ext.good []) (by simp) hG2 (by rw [hV]; exact inD_undef _) rfl (by rw [hdf2]; exact h.df) (by rw [hdf2]; exact h.din)
      rw [hV, conc_undef] at this
      exact hK _ _ _ _ _ this
    · rw [he] at he2; cases he2
    · rw [hw]
      simp only [if_true]
      have hrn := H.rnd j (by omega)
      have Gh := h.ext.good.part GT hsub
      have hrho : RhoOk ι (roomy ι (σ j).get) (τ j).tm c.eval o.op.operands.toList := fun x hx => by
        obtain ⟨r1, r2⟩ := h.rho D H ho hr hL hop x hx
        exact ⟨r1, inD_mono roomy_and _ (inD_and _ r2 (AT.rho GT (opOk_args hop) x hx).2)⟩
      refine hO.2 F ι w c _ Q hokj Gh hrho (by rw [hrn]; exact hF) fun ι' w' xs E hv hd hdi => ?_
      have hget : s2.get = (σ (j + 1)).get := by rw [hσ]; rfl
      rw [bare_get, hget] at E
      rw [hget] at hv hdi
      have hdf2 : (τ (j + 1)).df = ds ++ (τ p).df := by rw [← hdf, hτ]; cases o.dst <;> rfl
      have hdis : ∀ i, hdom g i → ¬ hdom (σ j).get i → ¬ hdom (σ (j + 1)).get i := fun i h1 h2 h3 => by
        have := hge i ⟨h1, h2⟩
        have := (H.evs hok (j + 1) (by omega)).1 i h3
        omega
      have E2 := Ext.beside h.ext.good hsub E hdis Gh
      have hrm : ∀ i k, roomy ι' (σ (j + 1)).get i k → roomy (fun i => if hdom g i ∧ ¬ hdom (σ j).get i then ι i else ι' i) (fun i => if hdom g i ∧ ¬ hdom (σ j).get i then g i else (σ (j + 1)).get i) i k := fun i k hi => by
        have hr2 : ¬ (hdom g i ∧ ¬ hdom (σ j).get i) := fun hr2 => hdis i hr2.1 hr2.2 hi.1
        refine ⟨?_, ?_⟩
        · show (if hdom g i ∧ ¬ hdom (σ j).get i then g i else (σ (j + 1)).get i) ≠ none
          rw [if_neg hr2]; exact hi.1
        · simp only [if_neg hr2]; exact hi.2
      have hcg : ∀ i k, roomy ι' (σ (j + 1)).get i k → (fun i => if hdom g i ∧ ¬ hdom (σ j).get i then ι i else ι' i) i = ι' i := fun i k hi => by
        have hr2 : ¬ (hdom g i ∧ ¬ hdom (σ j).get i) := fun hr2 => hdis i hr2.1 hr2.2 hi.1
        simp only [if_neg hr2]
      have hcv : conc ι' (V j) = conc (fun i => if hdom g i ∧ ¬ hdom (σ j).get i then ι i else ι' i) (V j) := (conc_congr hcg _ hv).symm
      rw [hcv]
      refine hK _ _ _ _ _ (h.put (c' := { c with defers := xs ++ c.defers }) D H ho hr hL hop E2 (fun i hi => H.mdMods hok ho i ?_) hG (inD_mono hrm _ hv) rfl ?_ ?_)
      · rw [hσ]
        show i ∈ s2.mods ++ (σ j).mods
        rw [hmd] at *
        simp [hσ, joinMods] at hi ⊢
        first | exact hi | exact .inl hi
      · rw [hdf2]
        exact (hd.congr hcg hdi).append (h.df.congr (D := roomy ι g) (fun i k hi => E2.agree i hi.1) h.din)
      · rw [hdf2]
        intro d hm
        rcases List.mem_append.1 hm with hm | hm
        · exact dfIn_mono hrm (hdi d hm)
        · exact dfIn_mono E2.rm (h.din d hm)
theorem draw_done (D : DrawOk tb.ty ops) (H : Tk P tb ops a0 a1 s0 s1 σ τ V al rd md) (hok : s0.Ok) {L : Nat → Bool} {c : Act} {w : World} {ι : Io} {g : Hp} {p : Nat} (h : DInv tb ops N a0 s0 s1 σ τ V al ι0 w0 L c w ι g p)
    (hall : ∀ i, i < ops.size → L i = true) : Ext tb ι0 s0.get w0 ι s1.get w s1.mods ∧ AOk ι s1.get N a1 c := by
  have hne : ∀ k ok, p ≤ k → k < ops.size → ops[k]? = some ok → effB ok.op = false := fun k ok h1 h2 hk => by
    cases hke : effB ok.op with
    | false => rfl
    | true => have := (h.heap.effs k ok hk hke).2 (hall k h2); omega
  have hg := H.at hok h.heap h.heap.le (Nat.le_refl _) hne (fun k ok _ h2 _ _ => hall k h2) (fun k ok h1 hk _ _ => by
    have := (Array.getElem?_eq_some_iff.1 hk).1; omega)
  have hf := H.finS
  have hfa := H.finA
  rw [Array.length_toList] at hf hfa
  have hdf := H.dfs (p := p) (ops.size - p) (by have := h.heap.le; omega) (fun k ok h1 h2 hk => hne k ok h1 (by have := h.heap.le; omega) hk)
  rw [show p + (ops.size - p) = ops.size from by have := h.heap.le; omega] at hdf
  subst hg
  rw [hfa] at hdf
  rw [hf] at h
  have hE := h.ext
  refine ⟨hE, ⟨h.size, fun t => ?_⟩, fun t => ?_, ?_, ?_⟩
  · rw [h.tm t, H.tmAll hall t _ (Nat.le_refl _), hfa]
  · have := h.tin t
    rw [H.tmAll hall t _ (Nat.le_refl _), hfa] at this
    exact this
  · rw [hdf]; exact h.df
  · rw [hdf]; exact h.din
theorem draw_all (D : DrawOk tb.ty ops) (H : Tk P tb ops a0 a1 s0 s1 σ τ V al rd md) (hok : s0.Ok) {F : Fence} (hF : FOk a0.rnd F) (hops : ∀ o ∈ ops.toList, opOk tb N o = true)
    (hW : ∀ j, j ≤ ops.size → ∃ ι w c, Good tb ι (σ j).get w ∧ AOk ι (σ j).get N (τ j) c) {Q : Exit → Act → World → Prop} (hQ : ∀ ι' c' w', Ext tb ι0 s0.get w0 ι' s1.get w' s1.mods → AOk ι' s1.get N a1 c' → Q .normal c' w') :
    ∀ (fuel : Nat) (listed : Array Bool) (c : Act) (w : World) (ι : Io) (g : Hp) (p : Nat), listed.size = ops.size → cntU (Lf listed) ops.size ≤ fuel → DInv tb ops N a0 s0 s1 σ τ V al ι0 w0 (Lf listed) c w ι g p →
      wpAnyIn F 0 P .any ops Q fuel listed c w := by
  have hready : ∀ (listed : Array Bool), listed.size = ops.size → ∀ i, i ∈ Region.ready .any ops listed → ∃ o, ops[i]? = some o ∧ Lf listed i = false ∧ ReadyAt (Lf listed) o := fun listed hs i hi => by
    obtain ⟨h1, o, h2, h3⟩ := mem_ready.1 hi
    have hlt := (Array.getElem?_eq_some_iff.1 h2).1
    refine ⟨o, h2, ?_, fun e he hb => h3 e he hb⟩
    unfold Lf
    rw [Array.getD_eq_getD_getElem?, Array.getElem?_eq_getElem (by omega)] at h1 ⊢
    exact h1
  have hnone : ∀ (listed : Array Bool), listed.size = ops.size → Region.ready .any ops listed = [] → ∀ i, i < ops.size → Lf listed i = true := fun listed hs hr i => by
    induction i using Nat.strongRecOn with
    | _ i ih =>
      intro hi
      cases hl : Lf listed i with
      | true => rfl
      | false =>
        exfalso
        have ho : ops[i]? = some ops[i] := by rw [Array.getElem?_eq_getElem hi]
        have : i ∈ Region.ready .any ops listed := by
          refine mem_ready.2 ⟨?_, ops[i], ho, fun e he hb => ?_⟩
          · unfold Lf at hl
            rw [Array.getD_eq_getD_getElem?, Array.getElem?_eq_getElem (by omega)] at hl ⊢
            exact hl
          · have hlo := D.lower i _ ho e he hb
            exact ih e.on hlo (by omega)
        rw [hr] at this
        cases this
  intro fuel
  induction fuel with
  | zero =>
    intro listed c w ι g p hs hc h
    have hall := cntU_zero ops.size (by omega : cntU (Lf listed) ops.size = 0)
    obtain ⟨h1, h2⟩ := draw_done D H hok h hall
    refine ⟨?_, hQ _ _ _ h1 h2⟩
    cases hr : Region.ready .any ops listed with
    | nil => rfl
    | cons i l =>
      obtain ⟨o, h3, h4, _⟩ := hready listed hs i (by rw [hr]; simp)
      rw [hall i (Array.getElem?_eq_some_iff.1 h3).1] at h4
      cases h4
  | succ fuel ih =>
    intro listed c w ι g p hs hc h
    refine ⟨fun hr => ?_, fun i hi => ?_⟩
    · obtain ⟨h1, h2⟩ := draw_done D H hok h (hnone listed hs hr)
      exact hQ _ _ _ h1 h2
    · obtain ⟨o, h3, h4, h5⟩ := hready listed hs i hi
      have hlt := (Array.getElem?_eq_some_iff.1 h3).1
      refine draw_step D H hok hF hops hW h h3 h5 h4 fun c' w' ι' g' p' h' => ?_
      rw [← Lf_set (by omega)] at h'
      refine ih _ c' w' ι' g' p' (by simpa using hs) ?_ h'
      rw [Lf_set (by omega)]
      have := cntU_add h4 ops.size hlt
      omega
theorem draw_sound (TB : TbOk P tb) {rec : Ex} (HC : CallOk P tb rec) (HR : RoundOk P tb rec) {a a' : AA} {s s' : St} (hD : drawOk tb.ty ops.toList ops.toList 0 [] (fun _ => 0) = true) (h : drawA tb rec ops.toList ops.toList 0 [] [] a s = some (a', s')) {F : Fence} {ι : Io} {w : World} {ac : Act}
    (hok : s.Ok) (G : Good tb ι s.get w) (hops : ∀ o ∈ ops.toList, opOk tb N o = true) (hF : FOk a.rnd F) (hA : AOk ι s.get N a ac) {Q : Exit → Act → World → Prop}
    (hQ : ∀ ι' ac' w', Ext tb ι s.get w ι' s'.get w' s'.mods → AOk ι' s'.get N a' ac' → Q .normal ac' w') : wpAnyIn F 0 P .any ops Q ops.size (Array.replicate ops.size false) ac w := by
  obtain ⟨σ, τ, V, al, rds, mds, H⟩ := drawA_trk TB HC HR ops.toList ops.toList 0 [] [] a a' s s' h
  have D := DrawOk.of hD
  have hL : ∀ j, Lf (Array.replicate ops.size false) j = false := fun j => by
    unfold Lf
    rw [Array.getD_eq_getD_getElem?]
    by_cases hj : j < ops.size
    · simp [Array.getElem?_replicate, hj]
    · simp [Array.getElem?_replicate, hj]
  have htm : ∀ k t, tmL ops V (tmA a.tm) (Lf (Array.replicate ops.size false)) k t = tmA a.tm t := fun k t => by
    induction k with
    | zero => rfl
    | succ k ih => rw [tmL_succ, if_neg (by rw [hL]; simp), ih]
  have hS := H.startS
  have hG : GInv tb ops σ al (Lf (Array.replicate ops.size false)) 0 s.get :=
    { le := Nat.zero_le _
      old := fun i o hi => by rw [hS] at hi; exact hi
      new := fun j o _ _ hj => by rw [hL] at hj; cases hj
      only := fun i hi => .inl (by rw [hS]; exact hi)
      effs := fun k o _ _ => by rw [hL]; simp
      news := fun k o _ _ hk => by omega }
  have hC : Closed ops (Lf (Array.replicate ops.size false)) := fun j o _ hj => by rw [hL] at hj; cases hj
  refine draw_all D H hok hF hops (Tk.worlds H hF hops hok G hA) hQ ops.size _ ac w ι s.get 0 (by simp) (cntU_le _ _) ⟨hC, Ext.refl G _, hG, hA.tm.1, fun t => ?_, fun t => ?_, ?_, ?_⟩
  · rw [htm]; exact hA.tm.2 t
  · rw [htm]; exact hA.tin t
  · have := H.startA; rw [this]; exact hA.df
  · have := H.startA; rw [this]; exact hA.din
theorem draw_ev (TB : TbOk P tb) {rec : Ex} (HC : CallOk P tb rec) (HR : RoundOk P tb rec) {a a' : AA} {s s' : St} (h : drawA tb rec ops.toList ops.toList 0 [] [] a s = some (a', s')) : (s.Ok → Ev s s') ∧ a'.rnd = a.rnd := by
  obtain ⟨σ, τ, V, al, rds, mds, H⟩ := drawA_trk TB HC HR ops.toList ops.toList 0 [] [] a a' s s' h
  have H : Tk P tb ops a a' s s' σ τ V al rds mds := H
  have hf := H.finS
  have hfa := H.finA
  rw [Array.length_toList] at hf hfa
  refine ⟨fun hok => ?_, ?_⟩
  · rw [← hf]; exact (H.evs hok _ (Nat.le_refl _)).2
  · rw [← hfa]; exact H.rnd _ (Nat.le_refl _)
end
end Go.Proofs.Ae
namespace Go.Proofs.Ae
variable {P : Program} {tb : Tb}
def exOf : AX → Exit
  | .normal => .normal
  | .exit id => .exit id
  | .ret => .ret
def XPost (tb : Tb) (N : Nat) (ι : Io) (s : St) (w : World) (x : AX) (a' : AA) (s' : St) : Exit → Act → World → Prop := fun e c w' =>
  e = exOf x ∧ ∃ ι', Ext tb ι s.get w ι' s'.get w' s'.mods ∧ AOk ι' s'.get N a' c
theorem XPost.after {N : Nat} {ι ι1 : Io} {s s1 s' : St} {w w1 : World} {x : AX} {a' : AA} {e : Exit} {c : Act} {w' : World} (E : Ext tb ι s.get w ι1 s1.get w1 s1.mods) (hm : ∀ i ∈ s1.mods, i ∈ s'.mods) (h : XPost tb N ι1 s1 w1 x a' s' e c w') : XPost tb N ι s w x a' s' e c w' := by
  obtain ⟨h1, ι', h2, h3⟩ := h
  exact ⟨h1, ι', E.trans h2 hm, h3⟩
def wpLoop (F : Fence) (P : Program) (c : Code) (Q : Exit → Act → World → Prop) (a : Act) (w : World) : Prop :=
  ∀ (b : Frame) (k : List Item) (cs : List Frame), b.roundOf = F.round → F.fn b.fn → F.room (cs.length + 1 + 0) →
    ∃ e a' w', Q e a' w' ∧ ArrivesIn (Machine.fenced P F) P (lone (b.atR a (.code c :: .inLoop c :: k)) cs w) b k cs e a' w'
theorem wpLoop.wpIn {F : Fence} {c : Code} {Q : Exit → Act → World → Prop} {a : Act} {w : World} (h : wpLoop F P c Q a w) : (Code.loop c).wpIn F 0 P Q a w := by
  intro b k cs hro hb hr
  obtain ⟨e, a', w', hq, harr⟩ := h b k cs hro hb hr
  exact ⟨e, a', w', hq, .of_steps (.one (fenced_calm hb hr rfl) stepR_loop) harr⟩
theorem wpLoop.of {F : Fence} {c : Code} {Q : Exit → Act → World → Prop} {a : Act} {w : World} (h : c.wpIn F 0 P (Exit.then (wpLoop F P c Q) Q) a w) : wpLoop F P c Q a w := by
  intro b k cs hro hb hr
  obtain ⟨e, a₁, w₁, hq, harr⟩ := h b (.inLoop c :: k) cs hro hb hr
  cases e with
  | normal =>
    obtain ⟨e₂, a₂, w₂, hq₂, harr₂⟩ := hq b k cs hro hb hr
    exact ⟨e₂, a₂, w₂, hq₂, .of_steps (StepsIn.trans harr (.one (fenced_calm hb hr rfl) stepR_inLoop)) harr₂⟩
  | exit id => exact ⟨_, a₁, w₁, hq, .pass (x := .inLoop c) rfl (fun _ _ => .inl (by simp)) harr⟩
  | goto l => exact ⟨_, a₁, w₁, hq, .pass (x := .inLoop c) rfl (fun _ _ => .inl (by simp)) harr⟩
  | ret => exact ⟨_, a₁, w₁, hq, .pass (x := .inLoop c) rfl (fun _ _ => .inl (by simp)) harr⟩
  | panic ch => exact ⟨_, a₁, w₁, hq, .pass (x := .inLoop c) rfl (fun _ _ => .inl (by simp)) harr⟩
  | outgrown => exact ⟨_, a₁, w₁, hq, .pass (x := .inLoop c) rfl (fun _ _ => .inl (by simp)) harr⟩
def wpX (F : Fence) (P : Program) (c : Code) (Q : Exit → Act → World → Prop) (a : Act) (w : World) : Prop :=
  match c with
  | .loop b => wpLoop F P b Q a w
  | c => c.wpIn F 0 P Q a w
theorem wpX.wpIn {F : Fence} {c : Code} {Q : Exit → Act → World → Prop} {a : Act} {w : World} (h : wpX F P c Q a w) : c.wpIn F 0 P Q a w := by
  cases c with
  | loop b => exact wpLoop.wpIn h
  | _ => exact h
def XSem (P : Program) (tb : Tb) (c : Code) (a : AA) (s : St) (x : AX) (a' : AA) (s' : St) : Prop :=
  (s.Ok → Ev s s') ∧ a'.rnd = a.rnd ∧ ∀ N F ι w ac, s.Ok → Good tb ι s.get w → codeOk tb N c = true → FOk a.rnd F → AOk ι s.get N a ac → wpX F P c (XPost tb N ι s w x a' s') ac w
def ExOk (P : Program) (tb : Tb) (rec : Ex) : Prop := ∀ c a s x a' s', rec c a s = some (x, a', s') → XSem P tb c a s x a' s'
theorem normalO_some {o : Option (AA × St)} {x : AX} {a' : AA} {s' : St} (h : normalO o = some (x, a', s')) : x = .normal ∧ o = some (a', s') := by
  unfold normalO at h
  split at h
  · cases h; exact ⟨rfl, rfl⟩
  · cases h
theorem region_x (TB : TbOk P tb) {rec : Ex} (HC : CallOk P tb rec) (HR : RoundOk P tb rec) {id : Nat} {ops : Array Oper} {draw : Bool} {a : AA} {s : St} {x : AX} {a' : AA} {s' : St} (h : xRegion id ops draw tb rec a s = some (x, a', s')) :
    XSem P tb (.region id ops draw) a s x a' s' := by
  cases draw with
  | false =>
    obtain ⟨rfl, hh⟩ := normalO_some (show normalO (regA tb rec ops.toList ops.toList a s) = some (x, a', s') from h)
    obtain ⟨h1, h2, h3⟩ := reg_sound TB HC HR ops.toList ops.toList [] rfl hh
    refine ⟨h1, h2, fun N F ι w ac hok G hc hF hA => ?_⟩
    have hc' : (allB (fun o => dstB N o.dst && allB (operandOk tb.gl) o.op.operands.toList) ops.toList && true) = true := hc
    rw [Bool.and_true] at hc'
    have := h3 N F ι w ac (XPost tb N ι s w .normal a' s') hok G (fun o ho => allB_spec hc' o ho) hF hA fun ι' ac' w' E hA' => ⟨rfl, ι', E, hA'⟩
    refine wpIn_region ?_
    rw [List.range_eq_range']
    simpa using this
  | true =>
    obtain ⟨rfl, hh⟩ := normalO_some (show normalO (drawA tb rec ops.toList ops.toList 0 [] [] a s) = some (x, a', s') from h)
    obtain ⟨h1, h2⟩ := draw_ev TB HC HR hh
    refine ⟨h1, h2, fun N F ι w ac hok G hc hF hA => ?_⟩
    have hc' : (allB (fun o => dstB N o.dst && allB (operandOk tb.gl) o.op.operands.toList) ops.toList && drawOk tb.ty ops.toList ops.toList 0 [] (fun _ => 0)) = true := hc
    rw [Bool.and_eq_true] at hc'
    refine wpIn_region_any TB.mixed ?_
    exact draw_sound TB HC HR hc'.2 hh hok (Ext.drew G []).good (fun o ho => allB_spec hc'.1 o ho) hF hA fun ι' ac' w' E hA' => ⟨rfl, ι', ((Ext.drew G s'.mods).trans E (fun _ h => h)), hA'⟩
theorem seqO_some {k : AA → St → Option (AX × AA × St)} {o : Option (AX × AA × St)} {x : AX} {a' : AA} {s' : St} (h : seqO k o = some (x, a', s')) :
    (∃ a1 s1, o = some (.normal, a1, s1) ∧ k a1 s1 = some (x, a', s')) ∨ (o = some (x, a', s') ∧ x ≠ .normal) := by
  unfold seqO at h
  split at h
  · rename_i x1 a1 s1
    cases x1 with
    | normal => exact .inl ⟨a1, s1, rfl, h⟩
    | exit id => cases h; exact .inr ⟨rfl, by simp⟩
    | ret => cases h; exact .inr ⟨rfl, by simp⟩
  · cases h
theorem then_of {Q : Exit → Act → World → Prop} {K : Act → World → Prop} {e : Exit} {c : Act} {w : World} {x : AX} (he : e = exOf x) (hx : x ≠ .normal) (h : Q e c w) : Exit.then K Q e c w := by
  subst he
  cases x with
  | normal => exact absurd rfl hx
  | exit id => exact h
  | ret => exact h
theorem seq_x {rec : Ex} (HE : ExOk P tb rec) {y z : Code} {a : AA} {s : St} {x : AX} {a' : AA} {s' : St} (h : seqO (rec z) (rec y a s) = some (x, a', s')) (W : Fence → (Exit → Act → World → Prop) → Act → World → Prop)
    (hW : ∀ F Q ac w, y.wpIn F 0 P (Exit.then (fun ac w => wpX F P z Q ac w) Q) ac w → W F Q ac w) :
    (s.Ok → Ev s s') ∧ a'.rnd = a.rnd ∧ ∀ N F ι w ac, s.Ok → Good tb ι s.get w → codeOk tb N y = true → codeOk tb N z = true → FOk a.rnd F → AOk ι s.get N a ac → W F (XPost tb N ι s w x a' s') ac w := by
  rcases seqO_some h with ⟨a1, s1, h1, h2⟩ | ⟨h1, hx⟩
  · obtain ⟨e1, e2, e3⟩ := HE _ _ _ _ _ _ h1
    obtain ⟨f1, f2, f3⟩ := HE _ _ _ _ _ _ h2
    refine ⟨fun hok => (e1 hok).trans (f1 ((e1 hok).ok hok)), f2.trans e2, fun N F ι w ac hok G hy hz hF hA => hW F _ ac w ?_⟩
    refine wpIn_mono (e3 N F ι w ac hok G hy hF hA).wpIn fun e c w1 hp => ?_
    obtain ⟨rfl, ι1, E1, A1⟩ := hp
    have hok1 := (e1 hok).ok hok
    have := f3 N F ι1 w1 c hok1 E1.good hz (by rw [e2]; exact hF) A1
    change wpX F P z (XPost tb N ι s w x a' s') c w1
    have hmono : ∀ e c w', XPost tb N ι1 s1 w1 x a' s' e c w' → XPost tb N ι s w x a' s' e c w' := fun e c w' hp => XPost.after E1 (f1 hok1).mods hp
    cases z with
    | loop b =>
      intro b' k cs hro hb hr
      obtain ⟨e, a'', w'', hq, harr⟩ := this b' k cs hro hb hr
      exact ⟨e, a'', w'', hmono _ _ _ hq, harr⟩
    | _ => exact wpIn_mono this hmono
  · obtain ⟨e1, e2, e3⟩ := HE _ _ _ _ _ _ h1
    refine ⟨e1, e2, fun N F ι w ac hok G hy hz hF hA => hW F _ ac w ?_⟩
    exact wpIn_mono (e3 N F ι w ac hok G hy hF hA).wpIn fun e c w1 hp => then_of hp.1 hx hp
theorem cond_x {rec : Ex} (HE : ExOk P tb rec) {o : Operand} {y z : Code} {a : AA} {s : St} {x : AX} {a' : AA} {s' : St} (h : condO (rec y a s) (rec z a s) (evO a.tm o) = some (x, a', s')) : XSem P tb (.cond o y z) a s x a' s' := by
  unfold condO at h
  split at h
  · rename_i hv
    obtain ⟨e1, e2, e3⟩ := HE _ _ _ _ _ _ h
    refine ⟨e1, e2, fun N F ι w ac hok G hc hF hA => ?_⟩
    have hc' : (operandOk tb.gl o && (codeOk tb N y && codeOk tb N z)) = true := hc
    rw [Bool.and_eq_true, Bool.and_eq_true] at hc'
    refine wpIn_cond_true ?_ (e3 N F ι w ac hok G hc'.2.1 hF hA).wpIn
    rw [(ev_ok G hA.tm hA.tin hc'.1).1, hv]; simp [conc]
  · rename_i hv
    obtain ⟨e1, e2, e3⟩ := HE _ _ _ _ _ _ h
    refine ⟨e1, e2, fun N F ι w ac hok G hc hF hA => ?_⟩
    have hc' : (operandOk tb.gl o && (codeOk tb N y && codeOk tb N z)) = true := hc
    rw [Bool.and_eq_true, Bool.and_eq_true] at hc'
    refine wpIn_cond_false ?_ (e3 N F ι w ac hok G hc'.2.2 hF hA).wpIn
    rw [(ev_ok G hA.tm hA.tin hc'.1).1, hv]; simp [conc]
  · cases h
theorem block_x {rec : Ex} (HE : ExOk P tb rec) {id : Nat} {y : Code} {a : AA} {s : St} {x : AX} {a' : AA} {s' : St} (h : blockO id (rec y a s) = some (x, a', s')) : XSem P tb (.block id y) a s x a' s' := by
  unfold blockO at h
  split at h
  · rename_i x1 a1 s1 hr
    obtain ⟨e1, e2, e3⟩ := HE _ _ _ _ _ _ hr
    have key : ∀ (_ : a' = a1) (_ : s' = s1), (∀ N ι w c w', Exit.inBlock id (XPost tb N ι s w x a1 s1) (exOf x1) c w' ∨ ¬ (∃ ι', Ext tb ι s.get w ι' s1.get w' s1.mods ∧ AOk ι' s1.get N a1 c)) → XSem P tb (.block id y) a s x a' s' := by
      rintro rfl rfl hk
      refine ⟨e1, e2, fun N F ι w ac hok G hc hF hA => ?_⟩
      refine wpIn_block (wpIn_mono (e3 N F ι w ac hok G hc hF hA).wpIn fun e c w1 hp => ?_)
      obtain ⟨rfl, hp⟩ := hp
      exact (hk N ι w c w1).resolve_right (fun h => h hp)
    cases x1 with
    | normal =>
      cases h
      refine key rfl rfl fun N ι w c w' => Classical.byCases (fun hp => .inl ⟨rfl, hp⟩) .inr
    | ret =>
      cases h
      refine key rfl rfl fun N ι w c w' => Classical.byCases (fun hp => .inl ⟨rfl, hp⟩) .inr
    | exit id' =>
      simp only at h
      rcases bif_cases h with ⟨hb, h⟩ | ⟨hb, h⟩
      · cases h
        have he : id' = id := Nat.eq_of_beq_eq_true hb
        refine key rfl rfl fun N ι w c w' => Classical.byCases (fun hp => .inl ?_) .inr
        simp only [exOf, Exit.inBlock, he, if_true]
        exact ⟨rfl, hp⟩
      · cases h
        have he : id' ≠ id := fun e => by rw [e] at hb; simp at hb
        refine key rfl rfl fun N ι w c w' => Classical.byCases (fun hp => .inl ?_) .inr
        simp only [exOf, Exit.inBlock, he, if_false]
        exact ⟨rfl, hp⟩
  · cases h
end Go.Proofs.Ae
namespace Go.Proofs.Ae
variable {P : Program} {tb : Tb}
theorem run_getLoop {w : World} {r : Nat} {o : Loop} (h : w.heap[r]? = some (.loop o)) : (Instr.getLoop r).run P w = .ok o w := by
  simp [Instr.getLoop, run_getObj_at (P := P) h (by simp)]
theorem setAll_ok {ι : Io} {N : Nat} : ∀ (l : List (Tmp × Value)) (tm : Tr Value) (tmps : Array Value), TmOk ι N tm tmps → (∀ p ∈ l, p.1 < N) → TmOk ι N (setAll l tm) ((l.map fun p => (p.1, conc ι p.2)).foldl (fun tmps p => tmps.setIfInBounds p.1 p.2) tmps)
  | [], tm, tmps, h, _ => h
  | p :: l, tm, tmps, h, hl => setAll_ok l (tm.set p.1 p.2) (tmps.setIfInBounds p.1 (conc ι p.2)) (h.set (hl p (by simp)) p.2) (fun q hq => hl q (by simp [hq]))
theorem setAll_in {D : Nat → Nat → Prop} : ∀ (l : List (Tmp × Value)) (tm : Tr Value), TmIn D tm → (∀ p ∈ l, inD D p.2) → TmIn D (setAll l tm)
  | [], tm, h, _ => h
  | p :: l, tm, h, hl => setAll_in l (tm.set p.1 p.2) (h.set p.1 (hl p (by simp))) (fun q hq => hl q (by simp [hq]))
theorem zip_fold (ι : Io) (ps : List Tmp) (args : List Value) (tmps : Array Value) : ((ps.toArray).zip (args.map (conc ι)).toArray).foldl (fun tmps (x : Tmp × Value) => match x with | (t, a) => tmps.setIfInBounds t a) tmps =
    ((ps.zip args).map fun p => (p.1, conc ι p.2)).foldl (fun tmps p => tmps.setIfInBounds p.1 p.2) tmps := by
  have : (ps.toArray).zip (args.map (conc ι)).toArray = ((ps.zip args).map fun p => (p.1, conc ι p.2)).toArray := by
    apply Array.ext'
    simp [List.zip_map_right]
  rw [this]
  simp
theorem Ext.loop {ι : Io} {g : Hp} {w : World} (G : Good tb ι g w) {l : Nat} {st st' : LoopState} {p p' : Option Code} {fid : FuncId} {tm : Tr Value} {ps : List Tmp} {as bo : Code} {d : Nat} (hl : g l = some (.loop st p fid tm ps as bo d)) {M : List Nat} (hM : l ∈ M) :
    ∃ (r : Loop) (w' : World), (Instr.getLoop (ι l).block).run P w = .ok r w ∧ r.state = st ∧ r.pending = p ∧ (∀ k : Sem Unit, (setObj (ι l).block (.loop { r with state := st', pending := p' })).run P w = .ok () w') ∧
      (∀ (k : Unit), True) ∧ Ext tb ι g w ι (hset g l (.loop st' p' fid tm ps as bo d)) w' M := by
  obtain ⟨fn, tmps, N, h1, h2, h3, h4, h5⟩ := G.obj _ _ hl
  refine ⟨_, { w with heap := w.heap.setIfInBounds (ι l).block (.loop { state := st', pending := p', fn := fn, tmps := tmps, params := ps.toArray, assign := as, body := bo, defers := (ι d).block }) }, run_getLoop h1, rfl, rfl, fun _ => ?_, fun _ => trivial, ?_⟩
  · exact (run_setObj_at (P := P) _ h1 (by simp)).1
  · have W := (run_setObj_at (P := P) (.loop { state := st', pending := p', fn := fn, tmps := tmps, params := ps.toArray, assign := as, body := bo, defers := (ι d).block }) h1 (by simp)).2
    have hc : (AObj.loop st p fid tm ps as bo d).inD (roomy ι g) := G.closed _ _ hl
    exact Ext.write G hM hl rfl rfl (show (AObj.loop st' p' fid tm ps as bo d).inD (roomy ι g) from hc) W ⟨fn, tmps, N, W.here, h2, h3, h4, h5⟩
theorem round_ok {rec : Ex} (HE : ExOk P tb rec) : RoundOk P tb rec := by
  intro l args s v s' h
  unfold roundO at h
  split at h
  · rename_i st p fid tmps params assign body d hl
    obtain ⟨hlen, h⟩ := bif_some h
    have hlen : args.length = params.length := Nat.eq_of_beq_eq_true hlen
    split at h
    · rename_i a1 s1 hr1
      unfold roundBody at h
      split at h
      · rename_i p1 fid1 tmps1 params1 assign1 bo1 d1 hl1
        split at h
        · rename_i x a2 s2 hr2
          obtain ⟨e1, e2, e3⟩ := HE _ _ _ _ _ _ hr1
          obtain ⟨f1, f2, f3⟩ := HE _ _ _ _ _ _ hr2
          unfold roundEnd at h
          split at h
          · rename_i pb fidb tmpsb paramsb assignb bob db hl2
            have hev : s.Ok → Ev s s2 := fun hok => by
              have g1 := e1 hok
              have g2 := g1.ok hok
              have g3 := Ev.upd (.loop .busy p1 fid1 tmps1 params1 assign1 bo1 d1) hl1
              exact (g1.trans g3).trans (f1 (g3.ok g2))
            have key : ∀ (jump : Option Code) (st' : LoopState) (b : Bool), exOf x = (match jump with | none => .normal | some (.exit id) => .exit id | some _ => .ret) → (jump = none ∨ (∃ id, jump = some (.exit id)) ∨ jump = some .ret) →
                (st' = if jump.isNone then .ready else .done) → v = .bool jump.isNone → s' = s2.upd l (.loop st' jump fidb tmpsb paramsb assignb bob db) → RdSem P tb l args s v s' := by
              rintro jump st' b hx hj hst rfl rfl
              refine ⟨fun hok => (hev hok).trans (Ev.upd _ hl2), fun F ι w hok G hargs hF => ?_⟩
              obtain ⟨fn, tmpsM, N, h1, h2, h3, h4, h5⟩ := G.obj _ _ hl
              refine ⟨fn, ((params.zip args).map fun p => (p.1, conc ι p.2)).foldl (fun tmps p => tmps.setIfInBounds p.1 p.2) tmpsM, assign, body, ?_, ?_⟩
              · unfold Instr.yield
                simp only [Sem.run_bind, run_getLoop h1, Result.andThen_ok]
                rw [if_neg (by simp [hlen])]
                simp only [Sem.run_pure, zip_fold]
              · have hF' : FOk true (F.inRound (ι l).block) := ⟨hF.1, hF.2.1, (fun h => by cases h), hF.2.2.2⟩
                have hA : AOk ι s.get N ⟨setAll (params.zip args) tmps, [], true, fid⟩ { tmps := ((params.zip args).map fun p => (p.1, conc ι p.2)).foldl (fun tmps p => tmps.setIfInBounds p.1 p.2) tmpsM, defers := [] } := by
                  refine ⟨setAll_ok _ _ _ h2 (fun q hq => h3 _ (List.of_mem_zip hq).1), setAll_in _ _ (G.closed _ _ hl).1 (fun q hq => hargs _ (List.of_mem_zip hq).2), trivial, by simp⟩
                refine roundIn_of_wpIn (hF.1 _) (wpIn_mono (e3 N (F.inRound (ι l).block) ι w _ hok G h4 hF' hA).wpIn fun e c w1 hp => ?_)
                obtain ⟨rfl, ι1, E1, A1⟩ := hp
                have hok1 := (e1 hok).ok hok
                have hdl : hdom s.get l := hdom_of hl
                have hbl1 : (ι1 l).block = (ι l).block := by rw [E1.agree l hdl]
                obtain ⟨r1, w2, g1, g2, g3, g4, _, E2⟩ := Ext.loop (P := P) (st' := .busy) (p' := p1) E1.good hl1 (M := l :: s1.mods) (by simp)
                rw [← St.get_upd] at E2
                refine ⟨w2, ?_, ?_⟩
                · rw [← hbl1]
                  unfold Instr.beginRound
                  have g5 : ({ r1 with state := .busy } : Loop) = { r1 with state := .busy, pending := p1 } := by rw [← g3]
                  simp only [Sem.run_bind, g1, Result.andThen_ok, g5, g4 (pure ()), g2, Sem.run_pure]
                · have hokU : (s1.upd l (.loop .busy p1 fid1 tmps1 params1 assign1 bo1 d1)).Ok := (Ev.upd _ hl1).ok hok1
                  have hrn : a1.rnd = true := e2
                  refine wpIn_mono (f3 N (F.inRound (ι l).block) ι1 w2 c hokU E2.good h5 (by rw [hrn]; exact hF') (A1.ext E2)).wpIn fun e c2 w3 hp => ?_
                  obtain ⟨he, ι2, E3, A2⟩ := hp
                  have hE : Ext tb ι s.get w ι2 s2.get w3 s2.mods := (E1.trans (E2.trans E3 (fun i hi => (f1 hokU).mods i (by simpa using hi))) (fun i hi => (f1 hokU).mods i (by simp [hi])))
                  have hbl2 : (ι2 l).block = (ι l).block := by rw [hE.agree l hdl]
                  obtain ⟨r2, w4, k1, k2, k3, k4, _, E4⟩ := Ext.loop (P := P) (st' := st') (p' := jump) E3.good hl2 (M := l :: s2.mods) (by simp)
                  rw [← St.get_upd] at E4
                  have hend : (Instr.endRound (ι l).block jump).run P w3 = .ok (.bool jump.isNone) w4 := by
                    rw [← hbl2]
                    unfold Instr.endRound
                    simp only [Sem.run_bind, k1, Result.andThen_ok, ← hst, k4 (pure ()), Sem.run_pure]
                  have hR : CEnd tb ι s w (.bool jump.isNone) (s2.upd l (.loop st' jump fidb tmpsb paramsb assignb bob db)) (.returned (.bool jump.isNone)) w4 :=
                    ⟨ι2, by simp [conc], hE.trans E4 (fun i hi => by simp [hi]), by simp [inD]⟩
                  rw [he, hx]
                  rcases hj with rfl | ⟨id, rfl⟩ | rfl
                  · exact ⟨_, w4, hend, hR⟩
                  · exact ⟨_, w4, hend, hR⟩
                  · exact ⟨_, w4, hend, hR⟩
            cases x with
            | normal => cases h; exact key none _ true rfl (.inl rfl) rfl rfl rfl
            | ret => cases h; exact key (some .ret) _ false rfl (.inr (.inr rfl)) rfl rfl rfl
            | exit id => cases h; exact key (some (.exit id)) _ false rfl (.inr (.inl ⟨id, rfl⟩)) rfl rfl rfl
          · cases h
        · cases h
      · cases h
    · cases h
  · cases h
end Go.Proofs.Ae
namespace Go.Proofs.Ae
variable {P : Program} {tb : Tb}
theorem push2 {α : Type} (xs : Array α) (a b : α) : ((xs.push a).push b)[xs.size + 1]? = some b := by
  rw [Array.getElem?_push]; simp
theorem range_x {rec : Ex} (HC : CallOk P tb rec) {f : Operand} {ps : Array Tmp} {assign body : Code} {a : AA} {s : St} {x : AX} {a' : AA} {s' : St} (h : rangeA tb rec f ps.toList assign body a s = some (x, a', s')) :
    XSem P tb (.rangeFunc f ps assign body) a s x a' s' := by
  unfold rangeA at h
  obtain ⟨hrnd, h⟩ := bif_some' h
  unfold rangeCallA at h
  split at h
  · rename_i g first cap hf
    split at h
    · rename_i v s3 hcall
      obtain ⟨c1, c2, c3⟩ := HC _ _ _ _ _ hcall
      unfold rangeEnd at h
      split at h
      · rename_i st p fid tmps params as bo dd hl
        have evs : s.Ok → Ev s s3 := fun hok => by
          have g1 : Ev s (s.alloc (.deferred true)) := Ev.alloc _ hok.fresh
          have hok1 := g1.ok hok
          have g2 := Ev.alloc (s := s.alloc (.deferred true)) (.loop .ready none a.fid a.tm ps.toList assign body s.next) hok1.fresh
          exact (g1.trans g2).trans (c1 (g2.ok hok1))
        have key : st ≠ .busy → s' = s3.upd (s.next + 1) (.loop .exhausted p fid tmps params as bo dd) → a' = ⟨a.tm, .mark s.next :: a.df, false, a.fid⟩ →
            exOf x = (match p with | none => .normal | some (.exit id) => .exit id | some _ => .ret) → (p = none ∨ (∃ id, p = some (.exit id)) ∨ p = some .ret) → XSem P tb (.rangeFunc f ps assign body) a s x a' s' := by
          rintro hst rfl rfl hx hp
          refine ⟨fun hok => (evs hok).trans (Ev.upd _ hl), hrnd.symm, fun N F ι w ac hok G hc hF hA => ?_⟩
          have hc' : (operandOk tb.gl f && allB (fun p => Nat.ble (p + 1) N) ps.toList && (codeOk tb N assign && codeOk tb N body)) = true := hc
          rw [Bool.and_eq_true, Bool.and_eq_true, Bool.and_eq_true] at hc'
          obtain ⟨⟨q1, q2⟩, q3, q4⟩ := hc'
          refine wpIn_rangeFunc fun fn hfn => ?_
          have hro : F.round = none := hF.2.2.1 hrnd
          have E1 : Ext tb ι s.get w (upI ι s.next ⟨w.heap.size, 0, 0⟩) (hset s.get s.next (.deferred true)) { w with heap := w.heap.push (.deferred (some [])) } [] := by
            refine Ext.alloc G hok.fresh _ _ _ _ trivial rfl rfl rfl (by simp) (fun b hb => ?_) (.inr rfl) ?_
            · simp only [Array.getElem?_push]; rw [if_neg (by omega)]
            · show ({ w with heap := w.heap.push (.deferred (some [])) } : World).heap[w.heap.size]? = _
              simp
          rw [← St.get_alloc] at E1
          have hok1 := (Ev.alloc (.deferred true) hok.fresh).ok hok
          have A1 := hA.ext E1
          have hL1 : (upI ι s.next ⟨w.heap.size, 0, 0⟩ s.next).block = w.heap.size := by rw [upI_self]
          have hnx : (s.alloc (.deferred true)).next = s.next + 1 := rfl
          have hfr := hok1.fresh
          rw [hnx] at hfr
          have hag : ∀ i k, roomy (upI ι s.next ⟨w.heap.size, 0, 0⟩) (s.alloc (.deferred true)).get i k → upI (upI ι s.next ⟨w.heap.size, 0, 0⟩) (s.next + 1) ⟨w.heap.size + 1, 0, 0⟩ i = upI ι s.next ⟨w.heap.size, 0, 0⟩ i := fun i k hi => upI_ne _ _ _ (ne_of_hdom hfr hi.1)
          have hD : hdom (s.alloc (.deferred true)).get s.next := hdom_of (St.get_alloc_self _ _)
          have E2 : Ext tb (upI ι s.next ⟨w.heap.size, 0, 0⟩) (s.alloc (.deferred true)).get { w with heap := w.heap.push (.deferred (some [])) } (upI (upI ι s.next ⟨w.heap.size, 0, 0⟩) (s.next + 1) ⟨w.heap.size + 1, 0, 0⟩)
              (hset (s.alloc (.deferred true)).get (s.next + 1) (.loop .ready none a.fid a.tm ps.toList assign body s.next))
              { w with heap := (w.heap.push (.deferred (some []))).push (.loop { state := .ready, pending := none, fn := fn, tmps := ac.tmps, params := ps, assign := assign, body := body, defers := w.heap.size }) } [] := by
            refine Ext.alloc E1.good hfr _ _ _ _ ⟨A1.tin, hD, Nat.zero_le _⟩ rfl rfl rfl (by simp) (fun b hb => ?_) (.inr (by simp)) ⟨fn, ac.tmps, N, ?_, A1.tm.congr A1.tin hag, fun y hy => ?_, q3, q4⟩
            · have hb' : b < w.heap.size + 1 := by simpa using hb
              simp only [Array.getElem?_push, Array.size_push]
              rw [if_neg (by omega)]
            · rw [hag s.next 0 ⟨hD, Nat.zero_le _⟩, hL1]
              exact push2 _ _ _
            · have h0 : y + 1 ≤ N := Nat.le_of_ble_eq_true (allB_spec q2 y hy)
              exact h0
          have hget2 : hset (s.alloc (.deferred true)).get (s.next + 1) (.loop .ready none a.fid a.tm ps.toList assign body s.next) = ((s.alloc (.deferred true)).alloc (.loop .ready none a.fid a.tm ps.toList assign body s.next)).get := by
            rw [← hnx]; exact (St.get_alloc _ _).symm
          rw [hget2] at E2
          have hok2 := (Ev.alloc (.loop .ready none a.fid a.tm ps.toList assign body s.next) hok1.fresh).ok hok1
          have A2 := A1.ext E2
          have hf2 := ev_ok E2.good A2.tm A2.tin q1
          rw [hf] at hf2
          obtain ⟨hf3, hf4⟩ := hf2
          simp only [inD] at hf4
          have hLl : (upI (upI ι s.next ⟨w.heap.size, 0, 0⟩) (s.next + 1) ⟨w.heap.size + 1, 0, 0⟩ (s.next + 1)).block = w.heap.size + 1 := by rw [upI_self]
          have hld : roomy (upI (upI ι s.next ⟨w.heap.size, 0, 0⟩) (s.next + 1) ⟨w.heap.size + 1, 0, 0⟩) ((s.alloc (.deferred true)).alloc (.loop .ready none a.fid a.tm ps.toList assign body s.next)).get (s.next + 1) 0 :=
            ⟨hdom_of (by rw [← hnx]; exact St.get_alloc_self _ _), Nat.zero_le _⟩
          have hargs : ∀ y ∈ first.toList ++ [Value.func (.yield (s.next + 1)) #[] #[]] ++ cap.toList, inD (roomy (upI (upI ι s.next ⟨w.heap.size, 0, 0⟩) (s.next + 1) ⟨w.heap.size + 1, 0, 0⟩) ((s.alloc (.deferred true)).alloc (.loop .ready none a.fid a.tm ps.toList assign body s.next)).get) y := by
            intro y hy
            simp only [List.mem_append, List.mem_singleton] at hy
            rcases hy with (hy | rfl) | hy
            · exact hf4.2.1 y (by simpa using hy)
            · simp only [inD]
              refine ⟨fun l hl => ?_, by simp, by simp⟩
              cases hl
              exact hld
            · exact hf4.2.2 y (by simpa using hy)
          have hcall2 := c3 F _ _ hok2 E2.good hargs ⟨hF.1, hF.2.1, (fun h => by cases h), hF.2.2.2⟩
          have hconc : ((first.toList ++ [Value.func (.yield (s.next + 1)) #[] #[]] ++ cap.toList).map (conc (upI (upI ι s.next ⟨w.heap.size, 0, 0⟩) (s.next + 1) ⟨w.heap.size + 1, 0, 0⟩))).toArray =
              first.map (conc (upI (upI ι s.next ⟨w.heap.size, 0, 0⟩) (s.next + 1) ⟨w.heap.size + 1, 0, 0⟩)) ++ #[Value.func (.yield (w.heap.size + 1)) #[] #[]] ++ cap.map (conc (upI (upI ι s.next ⟨w.heap.size, 0, 0⟩) (s.next + 1) ⟨w.heap.size + 1, 0, 0⟩)) := by
            apply Array.ext'
            simp [conc, fnC, hLl]
          rw [hconc] at hcall2
          refine ⟨w.heap.size + 1, [{ target := .collected w.heap.size, args := #[] }], { w with heap := (w.heap.push (.deferred (some []))).push (.loop { state := .ready, pending := none, fn := fn, tmps := ac.tmps, params := ps, assign := assign, body := body, defers := w.heap.size }) }, { target := .fn (.func g) (cap.map (conc (upI (upI ι s.next ⟨w.heap.size, 0, 0⟩) (s.next + 1) ⟨w.heap.size + 1, 0, 0⟩))), args := first.map (conc (upI (upI ι s.next ⟨w.heap.size, 0, 0⟩) (s.next + 1) ⟨w.heap.size + 1, 0, 0⟩)) ++ #[Value.func (.yield (w.heap.size + 1)) #[] #[]] }, { w with heap := (w.heap.push (.deferred (some []))).push (.loop { state := .ready, pending := none, fn := fn, tmps := ac.tmps, params := ps, assign := assign, body := body, defers := w.heap.size }) }, g, _, { w with heap := (w.heap.push (.deferred (some []))).push (.loop { state := .ready, pending := none, fn := fn, tmps := ac.tmps, params := ps, assign := assign, body := body, defers := w.heap.size }) }, ?_, ?_, fun f' _ => hF.1 f', ?_, fun hh => (by rw [hF.2.1] at hh; cases hh), hcall2.mono fun e w3 he => ?_⟩
          · simp [Instr.enterLoop, hro]
            rfl
          · have hres : resolve ac.eval (rangeCall f (w.heap.size + 1)) 0 = Deferred.ofValue (ac.eval f) #[Value.func (.yield (w.heap.size + 1)) #[] #[]] := by
              simp only [resolve, rangeCall, List.map_toArray, List.map_cons, List.map_nil]
              rfl
            rw [hres, hf3]
            simp only [conc, fnC, Deferred.ofValue, Sem.run_pure]
          · exact run_callFunc c2 _
          · obtain ⟨ι3, rfl, E3, _⟩ := he
            have hEall : Ext tb ι s.get w ι3 s3.get w3 s3.mods := (E1.trans (E2.trans E3 (by simp)) (by simp))
            have hbl : (ι3 (s.next + 1)).block = w.heap.size + 1 := by rw [E3.agree _ hld.1, hLl]
            obtain ⟨r2, w4, k1, k2, k3, k4, _, E4⟩ := Ext.loop (P := P) (st' := .exhausted) (p' := p) E3.good hl (M := (s.next + 1) :: s3.mods) (by simp)
            rw [← St.get_upd] at E4
            have hend : (Instr.endLoop (w.heap.size + 1)).run P w3 = .ok p w4 := by
              rw [← hbl]
              unfold Instr.endLoop
              have k5 : (r2.state == .busy) = false := by
                rw [k2]
                cases st <;> first | rfl | exact absurd rfl hst
              have k6 : ({ r2 with state := .exhausted } : Loop) = { r2 with state := .exhausted, pending := p } := by rw [← k3]
              simp only [Sem.run_bind, k1, Result.andThen_ok, k5, k6, k4 (pure ()), Bool.false_eq_true, if_false, Sem.run_pure, k3]
            refine ⟨p, w4, hend, ?_⟩
            have hEfin : Ext tb ι s.get w ι3 (s3.upd (s.next + 1) (.loop .exhausted p fid tmps params as bo dd)).get w4 (s3.upd (s.next + 1) (.loop .exhausted p fid tmps params as bo dd)).mods := hEall.trans E4 (fun i hi => by simp [hi])
            have hdo : hdom s3.get s.next := E3.dom _ (E2.dom _ hD)
            have hmk : (ι3 s.next).block = w.heap.size := by rw [E3.agree _ (E2.dom _ hD), hag s.next 0 ⟨hD, Nat.zero_le _⟩, hL1]
            have hAfin : AOk ι3 (s3.upd (s.next + 1) (.loop .exhausted p fid tmps params as bo dd)).get N ⟨a.tm, .mark s.next :: a.df, false, a.fid⟩ { ac with defers := [{ target := .collected w.heap.size, args := #[] }] ++ ac.defers } := by
              have hb := hA.ext hEfin
              refine ⟨hb.tm, hb.tin, ⟨?_, hb.df⟩, fun d hd => ?_⟩
              · show Target.collected w.heap.size = .collected (ι3 s.next).block
                rw [hmk]
              · rcases List.mem_cons.1 hd with rfl | hd
                · exact ⟨E4.dom _ hdo, Nat.zero_le _⟩
                · exact hb.din d hd
            have hpost : ∀ e, e = exOf x → XPost tb N ι s w x ⟨a.tm, .mark s.next :: a.df, false, a.fid⟩ (s3.upd (s.next + 1) (.loop .exhausted p fid tmps params as bo dd)) e { ac with defers := [{ target := .collected w.heap.size, args := #[] }] ++ ac.defers } w4 := fun e he => ⟨he, ι3, hEfin, hAfin⟩
            rcases hp with rfl | ⟨id, rfl⟩ | rfl
            · exact hpost _ hx.symm
            · exact wpIn_exit (hpost _ hx.symm)
            · exact wpIn_ret (hpost _ hx.symm)
        cases st with
        | busy => cases h
        | _ =>
          cases p with
          | none =>
            cases h
            exact key (by simp) rfl rfl rfl (.inl rfl)
          | some c =>
            cases c with
            | ret =>
              cases h
              exact key (by simp) rfl rfl rfl (.inr (.inr rfl))
            | exit id =>
              cases h
              exact key (by simp) rfl rfl rfl (.inr (.inl ⟨id, rfl⟩))
            | _ => cases h
      · cases h
    · cases h
  · cases h
end Go.Proofs.Ae
namespace Go.Proofs.Ae
variable {P : Program} {tb : Tb}
theorem recOp_some {o : Op} (h : recOp o = true) : ∃ args ats, o = .call { callee := .builtin .recover, args := args, argTypes := ats } := by
  unfold recOp at h
  split at h
  · rename_i c
    obtain ⟨callee, args, ats⟩ := c
    split at h
    · rename_i hc
      simp only at hc
      subst hc
      exact ⟨args, ats, rfl⟩
    · cases h
  · cases h
theorem recoverD_ret {c0 : Frame} {cs : List Frame} (h : c0.mode = .returning) : recoverD (c0 :: cs) = none := by
  unfold recoverD
  simp only [h]
theorem step_d (TB : TbOk P tb) {o : Oper} {a a' : AA} {s s' : St} (h : stepD tb o a s = some (a', s')) : (s.Ok → Ev s s') ∧ a'.rnd = a.rnd ∧ ∀ N ι w ac, s.Ok → Good tb ι s.get w → opOk tb N o = true → AOk ι s.get N a ac →
    (∃ ι' v w', AOk ι' s'.get N a' (ac.put o.dst (conc ι' v)) ∧ Ext tb ι s.get w ι' s'.get w' s'.mods ∧
      (((execOp ac.eval o).run P w = .ok .recover w' ∧ v = .nilIface) ∨ (execOp ac.eval o).run P w = .ok (.value (conc ι' v)) w' ∨ ((execOp ac.eval o).run P w = .ok .skip w' ∧ v = undefA))) := by
  unfold stepD at h
  rcases bif_cases h with ⟨hr, h⟩ | ⟨_, h⟩
  · cases h
    obtain ⟨args, ats, hop⟩ := recOp_some hr
    refine ⟨fun _ => Ev.refl _, put_rnd _ _ _, fun N ι w ac hok G hopk hA => ⟨ι, .nilIface, w, hA.put (opOk_dst hopk) (by simp [inD]), Ext.refl G _, .inl ⟨?_, rfl⟩⟩⟩
    simp [execOp, hop, resolve, invoke, builtin]
  · obtain ⟨hc, h⟩ := bif_some' h
    cases ho : opA tb.ty s a.tm o.op with
    | none => rw [ho] at h; cases h
    | some p =>
      obtain ⟨r, s1⟩ := p
      rw [ho] at h
      have E := plain_op TB hc ho
      cases r with
      | val v =>
        cases h
        refine ⟨E.1, put_rnd _ _ _, fun N ι w ac hok G hopk hA => ?_⟩
        obtain ⟨ι', w', nx, h1, h2, h3⟩ := E.2 ι w ac.eval hok G (hA.rho G (opOk_args hopk))
        rcases h3 with ⟨u, hu, rfl, h4⟩ | ⟨hu, _⟩
        · cases hu
          exact ⟨ι', v, w', (hA.ext h2).put (opOk_dst hopk) h4, h2, .inr (.inl h1)⟩
        · cases hu
      | skip =>
        cases h
        refine ⟨E.1, put_rnd _ _ _, fun N ι w ac hok G hopk hA => ?_⟩
        obtain ⟨ι', w', nx, h1, h2, h3⟩ := E.2 ι w ac.eval hok G (hA.rho G (opOk_args hopk))
        rcases h3 with ⟨u, hu, _⟩ | ⟨_, rfl⟩
        · cases hu
        · exact ⟨ι', undefA, w', (hA.ext h2).put (opOk_dst hopk) (inD_undef _), h2, .inr (.inr ⟨h1, rfl⟩)⟩
      | _ => cases h
theorem regD_cons {o : Oper} {l : List Oper} {a : AA} {s : St} : regD tb (o :: l) a s = bif o.guard.isNone then
      match stepD tb o a s with
      | some (a', s') => regD tb l a' s'
      | none => none
    else none := rfl
theorem regD_sound (TB : TbOk P tb) (ops : List Oper) : ∀ (l pre : List Oper), ops = pre ++ l → ∀ {a a' : AA} {s s' : St}, regD tb l a s = some (a', s') →
    (s.Ok → Ev s s') ∧ a'.rnd = a.rnd ∧ ∀ N F ι w ac (c0 : Frame) (cs : List Frame) (Q : Exit → Act → List Frame → World → Prop), s.Ok → Good tb ι s.get w → (∀ o ∈ ops, opOk tb N o = true) → FOk a.rnd F → AOk ι s.get N a ac → c0.mode = .returning →
      (∀ ι' ac' w', Ext tb ι s.get w ι' s'.get w' s'.mods → AOk ι' s'.get N a' ac' → Q .normal ac' (c0 :: cs) w') → wpOpsSIn F 0 P ops.toArray Q (List.range' pre.length l.length) ac (c0 :: cs) w := by
  intro l
  induction l with
  | nil =>
    intro pre hpre a a' s s' h
    cases h
    exact ⟨fun _ => Ev.refl _, rfl, fun N F ι w ac c0 cs Q hok G hops hF hA hm hQ => hQ ι ac w (Ext.refl G _) hA⟩
  | cons o l ih =>
    intro pre hpre a a' s s' h
    have hi : ops.toArray[pre.length]? = some o := by rw [List.getElem?_toArray, hpre]; simp
    have hmem : o ∈ ops := by rw [hpre]; simp
    have hlen : (pre ++ [o]).length = pre.length + 1 := by simp
    rw [regD_cons] at h
    obtain ⟨hg, h⟩ := bif_some h
    cases hs : stepD tb o a s with
    | none => rw [hs] at h; cases h
    | some p =>
      obtain ⟨a1, s1⟩ := p
      rw [hs] at h
      obtain ⟨e1, e2, e3⟩ := step_d TB hs
      obtain ⟨h1, h2, h3⟩ := ih (pre ++ [o]) (by rw [hpre]; simp) h
      refine ⟨fun hok => (e1 hok).trans (h1 ((e1 hok).ok hok)), h2.trans e2, fun N F ι w ac c0 cs Q hok G hops hF hA hm hQ => ?_⟩
      rw [show List.range' pre.length (o :: l).length = pre.length :: List.range' (pre.length + 1) l.length from by simp [List.range'_succ]]
      unfold wpOpsSIn
      rw [hi]
      have hwant : Region.wanted o (yielded ops.toArray ac.tmps) = true := by
        unfold Region.wanted
        cases hgg : o.guard with
        | none => rfl
        | some p => rw [hgg] at hg; cases hg
      simp only [hwant, if_true]
      refine ⟨about_ok hF.1 _ _ _, ?_⟩
      obtain ⟨ι1, v, w1, A1, E1, hrun⟩ := e3 N ι w ac hok G (hops o hmem) hA
      have hok1 := (e1 hok).ok hok
      have key := h3 N F ι1 w1 _ c0 cs Q hok1 E1.good hops (by rw [e2]; exact hF) A1 hm fun ι' ac' w' E hA' => hQ ι' ac' w' (E1.trans E (h1 hok1).mods) hA'
      rw [hlen] at key
      rcases hrun with ⟨hr, rfl⟩ | hr | ⟨hr, rfl⟩
      · rw [hr]
        simp only [recoverD_ret hm]
        simpa [conc] using key
      · rw [hr]; exact key
      · rw [hr]; rw [conc_undef] at key; exact key
def DSem (P : Program) (tb : Tb) (c : Code) (a : AA) (s : St) (x : AX) (a' : AA) (s' : St) : Prop :=
  (s.Ok → Ev s s') ∧ a'.rnd = a.rnd ∧ ∀ N F ι w ac (c0 : Frame) (cs : List Frame), s.Ok → Good tb ι s.get w → codeOk tb N c = true → FOk false F → a.rnd = false → AOk ι s.get N a ac → c0.mode = .returning →
    c.wpSIn F 0 P (fun e ac' cs' w' => cs' = c0 :: cs ∧ XPost tb N ι s w x a' s' e ac' w') ac (c0 :: cs) w
theorem seqD_some {k : AA → St → Option (AX × AA × St)} {o : Option (AX × AA × St)} {r : AX × AA × St} (h : seqD k o = some r) : ∃ a1 s1, o = some (.normal, a1, s1) ∧ k a1 s1 = some r := by
  unfold seqD at h
  split at h
  · rename_i x a1 s1
    cases x with
    | normal => exact ⟨a1, s1, rfl, h⟩
    | _ => cases h
  · cases h
theorem codeD_ok (TB : TbOk P tb) {rec : Ex} (HE : ExOk P tb rec) : ∀ (c : Code) (a : AA) (s : St) (x : AX) (a' : AA) (s' : St), codeD tb rec c a s = some (x, a', s') → DSem P tb c a s x a' s' := by
  intro c
  induction c with
  | region id ops draw =>
    intro a s x a' s' h
    change (bif draw then none else normalD (regD tb ops.toList a s)) = some (x, a', s') at h
    obtain ⟨hd, h⟩ := bif_some' h
    subst hd
    cases hr : regD tb ops.toList a s with
    | none => rw [hr] at h; cases h
    | some p =>
      obtain ⟨a1, s1⟩ := p
      rw [hr] at h
      cases h
      obtain ⟨e1, e2, e3⟩ := regD_sound TB ops.toList ops.toList [] rfl hr
      refine ⟨e1, e2, fun N F ι w ac c0 cs hok G hc hF hrn hA hm => ?_⟩
      have hc' : (allB (fun o => dstB N o.dst && allB (operandOk tb.gl) o.op.operands.toList) ops.toList && true) = true := hc
      rw [Bool.and_true] at hc'
      refine wpSIn_region ?_
      have := e3 N F ι w ac c0 cs (fun e ac' cs' w' => cs' = c0 :: cs ∧ XPost tb N ι s w .normal a' s' e ac' w') hok G (fun o ho => allB_spec hc' o ho) (by rw [hrn]; exact hF) hA hm fun ι' ac' w' E hA' => ⟨rfl, rfl, ι', E, hA'⟩
      rw [List.range_eq_range']
      simpa using this
  | seq y z ihy ihz =>
    intro a s x a' s' h
    obtain ⟨a1, s1, h1, h2⟩ := seqD_some (show seqD (rec z) (codeD tb rec y a s) = some (x, a', s') from h)
    obtain ⟨e1, e2, e3⟩ := ihy _ _ _ _ _ h1
    obtain ⟨f1, f2, f3⟩ := HE _ _ _ _ _ _ h2
    refine ⟨fun hok => (e1 hok).trans (f1 ((e1 hok).ok hok)), f2.trans e2, fun N F ι w ac c0 cs hok G hc hF hrn hA hm => ?_⟩
    have hc' : (codeOk tb N y && codeOk tb N z) = true := hc
    rw [Bool.and_eq_true] at hc'
    refine wpSIn_seq ?_
    have hy := e3 N F ι w ac c0 cs hok G hc'.1 hF hrn hA hm
    intro b k hb hr hFn hroom
    obtain ⟨e, a'', cs', w', hl, ⟨hcs, he, ι1, E1, A1⟩, harr⟩ := hy b k hb hr hFn hroom
    subst hcs
    subst he
    have hok1 := (e1 hok).ok hok
    refine ⟨.normal, a'', c0 :: cs, w', hl, ?_, harr⟩
    refine wpSIn_of_wpIn (hF.2.2.1 rfl) (wpIn_mono (f3 N F ι1 w' a'' hok1 E1.good hc'.2 (by rw [e2, hrn]; exact hF) A1).wpIn fun e ac2 w2 hp => ⟨rfl, ?_⟩)
    exact XPost.after E1 (f1 hok1).mods hp
  | _ => intro a s x a' s' h; cases h
end Go.Proofs.Ae
namespace Go.Proofs.Ae
variable {P : Program} {tb : Tb}
def resSem (tmps : Array Value) (r : ResultVar) : Sem Value :=
  match r with
  | .tmp t => pure (tmps.getD t undef)
  | .cell a t => do loadVar t (← asAddr (tmps.getD a undef))
theorem results_eq (fn : Func) (tmps : Array Value) : results fn tmps = (do
    let vs ← fn.results.mapM (resSem tmps)
    pure (if h : vs.size = 1 then vs[0] else .tuple vs)) := rfl
theorem resOne_ok (TB : TbOk P tb) {ι : Io} {s : St} {w : World} (G : Good tb ι s.get w) {N : Nat} {tm : Tr Value} {tmps : Array Value} (ht : TmOk ι N tm tmps) (hi : TmIn (roomy ι s.get) tm) {r : ResultVar} {v : Value} (h : resOne tb.ty s tm r = some v) :
    (resSem tmps r).run P w = .ok (conc ι v) w ∧ inD (roomy ι s.get) v := by
  cases r with
  | tmp t =>
    cases h
    exact ⟨by simp [resSem, ht.2 t], hi t⟩
  | cell a t =>
    simp only [resOne] at h
    split at h
    · rename_i ad had
      split at h
      · rename_i ti hti
        rw [loadT_eq] at h
        obtain ⟨h1, h2⟩ := loadH_spec (TB.ty _ _ hti) G h
        refine ⟨?_, h2⟩
        have h3 := ht.2 a
        rw [had] at h3
        simp only [resSem, h3, conc, asAddr, Sem.run_bind, Sem.run_pure, Result.andThen_ok, h1]
      · cases h
    · cases h
theorem resA_ok (TB : TbOk P tb) {ι : Io} {s : St} {w : World} (G : Good tb ι s.get w) {N : Nat} {tm : Tr Value} {tmps : Array Value} (ht : TmOk ι N tm tmps) (hi : TmIn (roomy ι s.get) tm) : ∀ {rs : List ResultVar} {vs : List Value}, resA tb.ty s tm rs = some vs →
    (rs.mapM (resSem tmps)).run P w = .ok (vs.map (conc ι)) w ∧ ∀ v ∈ vs, inD (roomy ι s.get) v
  | [], vs, h => by cases h; exact ⟨rfl, by simp⟩
  | r :: rs, vs, h => by
    change (match resOne tb.ty s tm r with
      | some v => match resA tb.ty s tm rs with
        | some l => some (v :: l)
        | none => none
      | none => none) = some vs at h
    cases h1 : resOne tb.ty s tm r with
    | none => rw [h1] at h; cases h
    | some v =>
      rw [h1] at h
      cases h2 : resA tb.ty s tm rs with
      | none => rw [h2] at h; cases h
      | some l =>
        rw [h2] at h
        cases h
        obtain ⟨k1, k2⟩ := resOne_ok TB G ht hi h1
        obtain ⟨k3, k4⟩ := resA_ok TB G ht hi h2
        refine ⟨?_, fun u hu => ?_⟩
        · rw [List.mapM_cons]
          simp only [Sem.run_bind, k1, k3, Result.andThen_ok, Sem.run_pure, List.map_cons]
        · rcases List.mem_cons.1 hu with rfl | hu
          · exact k2
          · exact k4 u hu
theorem tup_conc (ι : Io) (vs : List Value) : (if h : (vs.map (conc ι)).toArray.size = 1 then (vs.map (conc ι)).toArray[0] else .tuple (vs.map (conc ι)).toArray) = conc ι (tup vs) := by
  match vs with
  | [] => simp [tup, conc]
  | [v] => simp [tup]
  | u :: v :: l => simp [tup, conc]
theorem tup_in {D : Nat → Nat → Prop} {vs : List Value} (h : ∀ v ∈ vs, inD D v) : inD D (tup vs) := by
  match vs with
  | [] => simp [tup, inD]
  | [v] => exact h v (by simp)
  | u :: v :: l =>
    simp only [tup, inD]
    exact fun x hx => h x (by simpa using hx)
theorem results_ok (TB : TbOk P tb) {ι : Io} {s : St} {w : World} (G : Good tb ι s.get w) {N : Nat} {tm : Tr Value} {tmps : Array Value} (ht : TmOk ι N tm tmps) (hi : TmIn (roomy ι s.get) tm) {fn : Func} {vs : List Value} (h : resA tb.ty s tm fn.results.toList = some vs) :
    (results fn tmps).run P w = .ok (conc ι (tup vs)) w ∧ inD (roomy ι s.get) (tup vs) := by
  obtain ⟨h1, h2⟩ := resA_ok TB G ht hi h
  refine ⟨?_, tup_in h2⟩
  rw [results_eq, Array.mapM_eq_mapM_toList]
  simp only [Sem.run_bind, Sem.run_map, h1, Result.andThen_ok, Sem.run_pure]
  rw [← tup_conc]
theorem keepL_mem {s0 : St} {old : List Nat} : ∀ {l : List Nat} {i : Nat}, i ∈ keepL s0 old l ↔ i ∈ old ∨ (i ∈ l ∧ hdom s0.get i)
  | [], i => by simp [keepL]
  | j :: l, i => by
    change i ∈ Option.rec (motive := fun _ => List Nat) (keepL s0 old l) (fun _ => j :: keepL s0 old l) (s0.get j) ↔ _
    cases hj : s0.get j with
    | none =>
      simp only [keepL_mem (l := l), List.mem_cons]
      constructor
      · rintro (h | ⟨h, k⟩)
        · exact .inl h
        · exact .inr ⟨.inr h, k⟩
      · rintro (h | ⟨rfl | h, k⟩)
        · exact .inl h
        · exact absurd hj k
        · exact .inr ⟨h, k⟩
    | some o =>
      simp only [List.mem_cons, keepL_mem (l := l)]
      constructor
      · rintro (rfl | h | ⟨h, k⟩)
        · exact .inr ⟨.inl rfl, hdom_of hj⟩
        · exact .inl h
        · exact .inr ⟨.inr h, k⟩
      · rintro (h | ⟨rfl | h, k⟩)
        · exact .inr (.inl h)
        · exact .inl rfl
        · exact .inr (.inr ⟨h, k⟩)
theorem Ext.cut {ι ι' : Io} {g g' : Hp} {w w' : World} {M M' : List Nat} (h : Ext tb ι g w ι' g' w' M) (hm : ∀ i ∈ M, hdom g i → i ∈ M') : Ext tb ι g w ι' g' w' M' :=
  ⟨h.good, h.agree, h.dom, h.stay, h.size, h.os, h.tape, h.output, fun b hb hn => h.frame b hb (fun i hi o ho hw => hn i (hm i hi (hdom_of ho)) o ho hw),
    fun i o hn ho hs => (h.fresh i o hn ho hs).imp id (fun ⟨B, oB, h1, h2, h3⟩ => ⟨B, oB, hm B h1 (hdom_of h2), h2, h3⟩)⟩
theorem Ev.keep {s s2 : St} (h : Ev (bare s) s2) : Ev s (keepMods s s2) where
  next := h.next
  dom := h.dom
  domNew := h.domNew
  mods i hi := keepL_mem.2 (.inl hi)
  kept i o ho hn := h.kept i o ho (fun hm => hn (keepL_mem.2 (.inr ⟨hm, hdom_of ho⟩)))
theorem argsTr_get : ∀ (l : List Value) (n : Nat) (t : Tr Value) (k : Nat), tmA (argsTr l n t) k = if n ≤ k ∧ k < n + l.length then l.getD (k - n) undefA else tmA t k
  | [], n, t, k => by
    rw [if_neg (by simp)]; rfl
  | v :: l, n, t, k => by
    change tmA (argsTr l (n + 1) (t.set n v)) k = _
    rw [argsTr_get l (n + 1) (t.set n v) k, tmA_set]
    by_cases e : k = n
    · subst e
      rw [if_neg (by omega), if_pos rfl, if_pos (by simp)]
      simp
    · rw [if_neg e]
      by_cases hk : n + 1 ≤ k ∧ k < n + 1 + l.length
      · rw [if_pos hk, if_pos (by simp; omega)]
        obtain ⟨d, hd⟩ : ∃ d, k - n = d + 1 := ⟨k - n - 1, by omega⟩
        rw [hd, show k - (n + 1) = d from by omega]
        simp
      · rw [if_neg hk, if_neg (by simp; omega)]
theorem enter_tm {ι : Io} {N : Nat} {args : List Value} (hlen : args.length ≤ N) : TmOk ι N (argsTr args 0 .nil) ((args.map (conc ι)).toArray ++ Array.replicate (N - (args.map (conc ι)).toArray.size) undef) := by
  refine ⟨by simp; omega, fun t => ?_⟩
  rw [argsTr_get]
  by_cases h : t < args.length
  · rw [if_pos (by omega)]
    simp [Array.getD_eq_getD_getElem?, Array.getElem?_append, h, List.getD_eq_getElem?_getD]
  · rw [if_neg (by omega)]
    have : tmA (.nil : Tr Value) t = undefA := rfl
    rw [this, conc_undef]
    rw [Array.getD_eq_getD_getElem?]
    rw [Array.getElem?_append_right (by simp; omega)]
    rw [Array.getElem?_replicate]
    split <;> rfl
theorem enter_in {D : Nat → Nat → Prop} {args : List Value} (h : ∀ v ∈ args, inD D v) : TmIn D (argsTr args 0 .nil) := fun t => by
  rw [argsTr_get]
  by_cases ht : t < args.length
  · rw [if_pos (by omega)]
    have : args.getD (t - 0) undefA = args[t] := by simp [List.getD_eq_getElem?_getD, ht]
    rw [this]
    exact h _ (List.getElem_mem _)
  · rw [if_neg (by omega)]
    exact inD_undef D
theorem bodyEnd_some {rs rs' : List ResultVar} {o : Option (AX × AA × St)} {df : List ADef} {tm : Tr Value} {s : St} (h : bodyEnd rs o = some (df, tm, rs', s)) :
    rs' = rs ∧ ∃ x a, (x = .normal ∨ x = .ret) ∧ o = some (x, a, s) ∧ a.df = df ∧ a.tm = tm := by
  unfold bodyEnd at h
  split at h
  · cases h; exact ⟨rfl, _, _, .inl rfl, rfl, rfl, rfl⟩
  · cases h; exact ⟨rfl, _, _, .inr rfl, rfl, rfl, rfl⟩
  · cases h
theorem enter_ok (TB : TbOk P tb) {rec : Ex} (HE : ExOk P tb rec) {f : FuncId} {args : List Value} {s s1 : St} {df : List ADef} {tm : Tr Value} {rs : List ResultVar} (h : enterFn rec f args s (tb.fn.get f) = some (df, tm, rs, s1)) :
    ∃ fn c, P.funcs[f]? = some fn ∧ fn.body = some c ∧ Enters P f ∧ rs = fn.results.toList ∧ (s.Ok → Ev (bare s) s1) ∧ ∀ F ι w, s.Ok → Good tb ι s.get w → (∀ v ∈ args, inD (roomy ι s.get) v) → FOk false F →
      c.wpIn F 0 P (fun e ac w' => (e = .normal ∨ e = .ret) ∧ ∃ ι', Ext tb ι s.get w ι' s1.get w' s1.mods ∧ TmOk ι' fn.ntmps tm ac.tmps ∧ TmIn (roomy ι' s1.get) tm ∧ DfsOk ι' df ac.defers ∧ ∀ d ∈ df, dfIn (roomy ι' s1.get) d)
        { tmps := (args.map (conc ι)).toArray ++ Array.replicate (fn.ntmps - (args.map (conc ι)).toArray.size) undef, defers := [] } w := by
  cases hfn : tb.fn.get f with
  | none => rw [hfn] at h; cases h
  | some fn =>
    rw [hfn] at h
    obtain ⟨k1, k2, k3⟩ := TB.fn _ _ hfn
    simp only [enterFn] at h
    split at h
    · cases h
    · rename_i c hb
      obtain ⟨hlen, h⟩ := bif_some h
      have hlen : args.length ≤ fn.ntmps := Nat.le_of_ble_eq_true hlen
      obtain ⟨rfl, x, a, hx, hr, rfl, rfl⟩ := bodyEnd_some h
      obtain ⟨e1, e2, e3⟩ := HE _ _ _ _ _ _ hr
      have hcode : codeOk tb fn.ntmps c = true := by unfold funcOk at k3; rw [hb] at k3; exact k3
      refine ⟨fn, c, k1, hb, ⟨fn, k1, k2, by rw [hb]; rfl⟩, rfl, fun hok => e1 hok, fun F ι w hok G hargs hF => ?_⟩
      refine wpIn_mono (e3 fn.ntmps F ι w { tmps := (args.map (conc ι)).toArray ++ Array.replicate (fn.ntmps - (args.map (conc ι)).toArray.size) undef, defers := [] } hok G hcode hF ⟨enter_tm hlen, enter_in hargs, trivial, by simp⟩).wpIn fun e ac w' hp => ?_
      obtain ⟨rfl, ι', E, A⟩ := hp
      refine ⟨?_, ι', E, A.tm, A.tin, A.df, A.din⟩
      rcases hx with rfl | rfl
      · exact .inl rfl
      · exact .inr rfl
theorem enterD_ok (TB : TbOk P tb) {rec : Ex} (HE : ExOk P tb rec) {f : FuncId} {args : List Value} {s s1 : St} {df : List ADef} {tm : Tr Value} {rs : List ResultVar} (h : enterFn (codeD tb rec) f args s (tb.fn.get f) = some (df, tm, rs, s1)) :
    ∃ fn c, P.funcs[f]? = some fn ∧ fn.body = some c ∧ Enters P f ∧ rs = fn.results.toList ∧ (s.Ok → Ev (bare s) s1) ∧ ∀ F ι w (c0 : Frame) (cs : List Frame), s.Ok → Good tb ι s.get w → (∀ v ∈ args, inD (roomy ι s.get) v) → FOk false F → c0.mode = .returning →
      c.wpSIn F 0 P (fun e ac cs' w' => cs' = c0 :: cs ∧ (e = .normal ∨ e = .ret) ∧ ∃ ι', Ext tb ι s.get w ι' s1.get w' s1.mods ∧ TmOk ι' fn.ntmps tm ac.tmps ∧ TmIn (roomy ι' s1.get) tm ∧ DfsOk ι' df ac.defers ∧ ∀ d ∈ df, dfIn (roomy ι' s1.get) d)
        { tmps := (args.map (conc ι)).toArray ++ Array.replicate (fn.ntmps - (args.map (conc ι)).toArray.size) undef, defers := [] } (c0 :: cs) w := by
  cases hfn : tb.fn.get f with
  | none => rw [hfn] at h; cases h
  | some fn =>
    rw [hfn] at h
    obtain ⟨k1, k2, k3⟩ := TB.fn _ _ hfn
    simp only [enterFn] at h
    split at h
    · cases h
    · rename_i c hb
      obtain ⟨hlen, h⟩ := bif_some h
      have hlen : args.length ≤ fn.ntmps := Nat.le_of_ble_eq_true hlen
      obtain ⟨rfl, x, a, hx, hr, rfl, rfl⟩ := bodyEnd_some h
      obtain ⟨e1, e2, e3⟩ := codeD_ok TB HE _ _ _ _ _ _ hr
      have hcode : codeOk tb fn.ntmps c = true := by unfold funcOk at k3; rw [hb] at k3; exact k3
      refine ⟨fn, c, k1, hb, ⟨fn, k1, k2, by rw [hb]; rfl⟩, rfl, fun hok => e1 hok, fun F ι w c0 cs hok G hargs hF hm => ?_⟩
      have := e3 fn.ntmps F ι w { tmps := (args.map (conc ι)).toArray ++ Array.replicate (fn.ntmps - (args.map (conc ι)).toArray.size) undef, defers := [] } c0 cs hok G hcode hF rfl ⟨enter_tm hlen, enter_in hargs, trivial, by simp⟩ hm
      intro b k hb' hr' hFn hroom
      obtain ⟨e, a'', cs', w', hl, ⟨hcs, he, ι', E, A⟩, harr⟩ := this b k hb' hr' hFn hroom
      refine ⟨e, a'', cs', w', hl, ⟨hcs, ?_, ι', E, A.tm, A.tin, A.df, A.din⟩, harr⟩
      subst he
      rcases hx with rfl | rfl
      · exact .inl rfl
      · exact .inr rfl
theorem nil_of_df {ι : Io} {xs : List Deferred} (h : DfsOk ι [] xs) : xs = [] := by
  cases xs with
  | nil => rfl
  | cons y ys => exact h.elim
def DCall (P : Program) (tb : Tb) (f : FuncId) (args : List Value) (s s1 : St) : Prop :=
  (s.Ok → Ev s s1) ∧ Enters P f ∧ ∀ F, FOk false F → ∀ ι w, s.Ok → Good tb ι s.get w → (∀ v ∈ args, inD (roomy ι s.get) v) →
    CallsDIn F 0 P f (args.map (conc ι)).toArray .returning w (fun e u' w' => u' = .returning ∧ ∃ ι', (∃ v, e = .returned v) ∧ Ext tb ι s.get w ι' s1.get w' s1.mods)
theorem dcall_ok (TB : TbOk P tb) {rec : Ex} (HE : ExOk P tb rec) {f : FuncId} {args : List Value} {s s1 : St} {v : Value} (hnat : tb.nat f = none) (h : call0 tb rec f args s = some (v, s1)) : DCall P tb f args s s1 := by
  simp only [call0, hnat] at h
  split at h
  · rename_i tm rs s3 hen
    obtain ⟨fn', c, k1, k2, k3, k4, k5, k6⟩ := enter_ok TB HE hen
    subst k4
    unfold resultsA at h
    split at h
    · rename_i vs hvs
      cases h
      refine ⟨fun hok => (k5 hok).keep, k3, fun F hF ι w hok G hargs => ?_⟩
      have hcall := callsDIn_of_wp (F := F) (n := 0) (args := (args.map (conc ι)).toArray) (u := .returning) (R := fun e w' => ∃ ι', (∃ v, e = .returned v) ∧ Ext tb ι s.get w ι' (keepMods s s3).get w' (keepMods s s3).mods) k1 k2 (hF.1 f)
        (wpIn_mono (k6 F ι w hok G hargs hF) (fun e ac w' hp => by
          obtain ⟨he, ι', E, t1, t2, t3, t4⟩ := hp
          have hnil := nil_of_df t3
          obtain ⟨q1, q2⟩ := results_ok TB E.good t1 t2 hvs
          have hE2 : Ext tb ι s.get w ι' (keepMods s s3).get w' (keepMods s s3).mods := E.cut (fun i hi hd => keepL_mem.2 (.inr ⟨hi, hd⟩))
          rcases he with rfl | rfl
          · exact ⟨hnil, _, q1, ι', ⟨_, rfl⟩, hE2⟩
          · exact ⟨hnil, _, q1, ι', ⟨_, rfl⟩, hE2⟩)) (hF.2.2.1 rfl)
      exact hcall
    · cases h
  · cases h
theorem dcallD_ok (TB : TbOk P tb) {rec : Ex} (HE : ExOk P tb rec) {f : FuncId} {args : List Value} {s s1 : St} {v : Value} (hnat : tb.nat f = none) (h : call0 tb (codeD tb rec) f args s = some (v, s1)) : DCall P tb f args s s1 := by
  simp only [call0, hnat] at h
  split at h
  · rename_i tm rs s3 hen
    obtain ⟨fn', c, k1, k2, k3, k4, k5, k6⟩ := enterD_ok TB HE hen
    subst k4
    unfold resultsA at h
    split at h
    · rename_i vs hvs
      cases h
      refine ⟨fun hok => (k5 hok).keep, k3, fun F hF ι w hok G hargs => ?_⟩
      refine callsDIn_of_wpSIn k1 k2 (hF.1 f) fun c0 cs hm => ?_
      have := k6 F ι w c0 cs hok G hargs hF hm
      intro b k hb hr hFn hroom
      obtain ⟨e, a'', cs', w', hl, ⟨hcs, he, ι', E, t1, t2, t3, t4⟩, harr⟩ := this b k hb hr hFn hroom
      refine ⟨e, a'', cs', w', hl, ?_, harr⟩
      have hnil := nil_of_df t3
      obtain ⟨q1, q2⟩ := results_ok TB E.good t1 t2 hvs
      have hE2 : Ext tb ι s.get w ι' (keepMods s s3).get w' (keepMods s s3).mods := E.cut (fun i hi hd => keepL_mem.2 (.inr ⟨hi, hd⟩))
      have hc0 : ({ c0 with mode := .returning } : Frame) = c0 := by rw [← hm]
      rcases he with rfl | rfl
      · exact ⟨hnil, .returning, by rw [hc0]; exact hcs, _, q1, rfl, ι', ⟨_, rfl⟩, hE2⟩
      · exact ⟨hnil, .returning, by rw [hc0]; exact hcs, _, q1, rfl, ι', ⟨_, rfl⟩, hE2⟩
    · cases h
  · cases h
theorem leave_ok (TB : TbOk P tb) {rec : Ex} (HE : ExOk P tb rec) {F : Fence} (hF : FOk false F) {fn : Func} {tmps : Array Value} {R : Ending → World → Prop} :
    ∀ (ds : List ADef) (s s' : St), leaveA tb rec ds s = some s' → (s.Ok → Ev s s') ∧ ∀ ι w xs, s.Ok → Good tb ι s.get w → DfsOk ι ds xs → (∀ d ∈ ds, dfIn (roomy ι s.get) d) →
      (∀ ι' w', Ext tb ι s.get w ι' s'.get w' s'.mods → LeavesIn F 0 P fn tmps R [] .returning w') → LeavesInM F 0 P fn tmps R xs .returning w := by
  intro ds
  induction ds with
  | nil =>
    intro s s' h
    cases h
    refine ⟨fun _ => Ev.refl _, fun ι w xs hok G hd _ hR => ?_⟩
    rw [nil_of_df hd]
    exact hR ι w (Ext.refl G _)
  | cons d ds ih =>
    intro s s' h
    change (match leaveOne tb rec d s with
      | some s' => leaveA tb rec ds s'
      | none => none) = some s' at h
    cases h1 : leaveOne tb rec d s with
    | none => rw [h1] at h; cases h
    | some s1 =>
      rw [h1] at h
      obtain ⟨i1, i2⟩ := ih s1 s' h
      cases d with
      | mark id =>
        simp only [leaveOne] at h1
        split at h1
        · rename_i hid
          cases h1
          refine ⟨fun hok => (Ev.upd _ hid).trans (i1 ((Ev.upd _ hid).ok hok)), fun ι w xs hok G hd hdi hR => ?_⟩
          cases xs with
          | nil => exact hd.elim
          | cons x xs =>
            obtain ⟨hx, hd⟩ := hd
            have hobj : w.heap[(ι id).block]? = some (.deferred (some [])) := G.obj _ _ hid
            obtain ⟨r1, W⟩ := run_setObj_at (P := P) (.deferred none) hobj (by simp)
            have E : Ext tb ι s.get w ι (s.upd id (.deferred false)).get { w with heap := w.heap.setIfInBounds (ι id).block (.deferred none) } (s.upd id (.deferred false)).mods := by
              rw [St.get_upd]
              exact Ext.write G (by simp) hid rfl rfl trivial W W.here
            have hok1 := (Ev.upd (.deferred false) hid).ok hok
            refine ⟨by simp, .inl ⟨(ι id).block, _, hx, ?_, i2 ι _ xs hok1 E.good hd (fun e he => dfIn_mono E.rm (hdi e (by simp [he]))) fun ι' w' E' => hR ι' w' (E.trans E' (i1 hok1).mods)⟩⟩
            simp [Instr.takeDeferred, run_getObj_at (P := P) hobj (by simp), r1]
        · cases h1
      | call f args =>
        have hD : DCall P tb f args s s1 := by
          simp only [leaveOne] at h1
          split at h1
          · cases h1
          · rename_i hnat
            rcases bif_cases h1 with ⟨_, h1⟩ | ⟨_, h1⟩
            · cases hc : call0 tb (codeD tb rec) f args s with
              | none => rw [hc] at h1; cases h1
              | some p =>
                obtain ⟨v, s2⟩ := p
                rw [hc] at h1
                cases h1
                exact dcallD_ok TB HE hnat hc
            · cases hc : call0 tb rec f args s with
              | none => rw [hc] at h1; cases h1
              | some p =>
                obtain ⟨v, s2⟩ := p
                rw [hc] at h1
                cases h1
                exact dcall_ok TB HE hnat hc
        obtain ⟨hev, k3, hcall⟩ := hD
        refine ⟨fun hok => (hev hok).trans (i1 ((hev hok).ok hok)), fun ι w xs hok G hd hdi hR => ?_⟩
        cases xs with
        | nil => exact hd.elim
        | cons x xs =>
          obtain ⟨⟨cap, hx1, hx2⟩, hd⟩ := hd
          have hain : ∀ y ∈ args, inD (roomy ι s.get) y := hdi (.call f args) (by simp)
          refine ⟨by simp, .inr ⟨fun hh => (by rw [hF.2.1] at hh; cases hh), .func f, cap, f, (args.map (conc ι)).toArray, hx1, ?_, fun g _ => hF.1 g, ?_⟩⟩
          · rw [hx1]
            simp only [invoke, hx2]
            exact run_callFunc k3 w
          · refine (hcall F hF ι w hok G hain).mono fun e u' w' he => ?_
            obtain ⟨rfl, ι', ⟨v, rfl⟩, E⟩ := he
            have hok1 := (hev hok).ok hok
            exact i2 ι' w' xs hok1 E.good (hd.congr (D := roomy ι s.get) (fun i k hi => E.agree i hi.1) (fun e he => hdi e (by simp [he]))) (fun e he => dfIn_mono E.rm (hdi e (by simp [he]))) fun ι2 w2 E2 => hR ι2 w2 (E.trans E2 (i1 hok1).mods)
def NatOk (P : Program) (tb : Tb) : Prop := ∀ f nat, tb.nat f = some nat → ∀ args s v s', nat args s = some (v, s') → CSem P tb f args s v s'
theorem call_ok (TB : TbOk P tb) (HN : NatOk P tb) {rec : Ex} (HE : ExOk P tb rec) : CallOk P tb rec := by
  intro f args s v s' h
  unfold callF at h
  split at h
  · rename_i nat hnat
    exact HN f nat hnat args s v s' h
  · split at h
    · rename_i df tm rs s1 hen
      obtain ⟨fn, c, k1, k2, k3, k4, k5, k6⟩ := enter_ok TB HE hen
      subst k4
      split at h
      · rename_i s2 hlv
        unfold resultsA at h
        split at h
        · rename_i vs hvs
          cases h
          have hevl := (leave_ok (F := Fence.wide) (fn := fn) (tmps := #[]) (R := fun _ _ => True) TB HE ⟨fun _ => trivial, rfl, fun _ => rfl, rfl⟩ df s1 s2 hlv).1
          have hev : s.Ok → Ev (bare s) s2 := fun hok => (k5 hok).trans (hevl ((k5 hok).ok hok))
          refine ⟨fun hok => (hev hok).keep, k3, fun F ι w hok G hargs hF => ?_⟩
          have hF' : FOk false F.plain := ⟨hF.1, hF.2.1, fun _ => rfl, hF.2.2.2⟩
          have : CallsIn F.plain 0 P f (args.map (conc ι)).toArray w (CEnd tb ι s w (tup vs) (keepMods s s2)) := by
            refine callsIn_of_wp_marks k1 k2 (hF.1 f) (wpIn_mono (k6 F.plain ι w hok G hargs hF') fun e ac w' hp => ?_)
            obtain ⟨he, ι', E, t1, t2, t3, t4⟩ := hp
            have hok1 := (k5 hok).ok hok
            have key : LeavesInM F.plain 0 P fn ac.tmps (CEnd tb ι s w (tup vs) (keepMods s s2)) ac.defers .returning w' := by
              refine (leave_ok TB HE hF' df s1 s2 hlv).2 ι' w' ac.defers hok1 E.good t3 t4 fun ι2 w2 E2 => ?_
              obtain ⟨q1, q2⟩ := results_ok TB E2.good (t1.congr t2 (fun i k hi => E2.agree i hi.1)) (t2.mono E2.rm) hvs
              refine ⟨_, q1, ι2, rfl, ?_, q2⟩
              exact (E.trans E2 (hevl hok1).mods).cut (fun i hi hd => keepL_mem.2 (.inr ⟨hi, hd⟩))
            rcases he with rfl | rfl
            · exact key
            · exact key
          exact this
        · cases h
      · cases h
    · cases h
theorem exec_ok (TB : TbOk P tb) (HN : NatOk P tb) {rec : Ex} (HE : ExOk P tb rec) : ExOk P tb (execA tb rec) := by
  have HC := call_ok TB HN HE
  have HR := round_ok HE
  intro c a s x a' s' h
  cases c with
  | skip =>
    cases (show some (AX.normal, a, s) = some (x, a', s') from h)
    exact ⟨fun _ => Ev.refl _, rfl, fun N F ι w ac hok G hc hF hA => wpIn_skip ⟨rfl, ι, Ext.refl G _, hA⟩⟩
  | region id ops draw => exact region_x TB HC HR h
  | seq y z =>
    obtain ⟨e1, e2, e3⟩ := seq_x HE (show seqO (rec z) (rec y a s) = some (x, a', s') from h) (fun F Q ac w => (Code.seq y z).wpIn F 0 P Q ac w) (fun F Q ac w hw => wpIn_seq (wpIn_mono hw fun e ac w' he => by
      cases e <;> first | exact wpX.wpIn he | exact he))
    refine ⟨e1, e2, fun N F ι w ac hok G hc hF hA => ?_⟩
    have hc' : (codeOk tb N y && codeOk tb N z) = true := hc
    rw [Bool.and_eq_true] at hc'
    exact e3 N F ι w ac hok G hc'.1 hc'.2 hF hA
  | cond o y z => exact cond_x HE h
  | block id y => exact block_x HE h
  | loop y =>
    obtain ⟨e1, e2, e3⟩ := seq_x HE (show seqO (rec (.loop y)) (rec y a s) = some (x, a', s') from h) (fun F Q ac w => wpLoop F P y Q ac w) (fun F Q ac w hw => wpLoop.of hw)
    exact ⟨e1, e2, fun N F ι w ac hok G hc hF hA => e3 N F ι w ac hok G hc hc hF hA⟩
  | rangeFunc f ps as bo => exact range_x HC h
  | exit id =>
    cases (show some (AX.exit id, a, s) = some (x, a', s') from h)
    exact ⟨fun _ => Ev.refl _, rfl, fun N F ι w ac hok G hc hF hA => wpIn_exit ⟨rfl, ι, Ext.refl G _, hA⟩⟩
  | ret =>
    cases (show some (AX.ret, a, s) = some (x, a', s') from h)
    exact ⟨fun _ => Ev.refl _, rfl, fun N F ι w ac hok G hc hF hA => wpIn_ret ⟨rfl, ι, Ext.refl G _, hA⟩⟩
  | label l =>
    cases (show some (AX.normal, a, s) = some (x, a', s') from h)
    exact ⟨fun _ => Ev.refl _, rfl, fun N F ι w ac hok G hc hF hA => wpIn_label ⟨rfl, ι, Ext.refl G _, hA⟩⟩
  | scope b => cases h
  | goto l => cases h
  | refuse m => cases h
theorem evN_ok (TB : TbOk P tb) (HN : NatOk P tb) : ∀ n, ExOk P tb (evN tb n)
  | 0 => fun c a s x a' s' h => by cases h
  | n + 1 => exec_ok TB HN (evN_ok TB HN n)
theorem run_ok (TB : TbOk P tb) (HN : NatOk P tb) {n : Nat} {f : FuncId} {args : List Value} {s : St} {v : Value} {s' : St} (h : run tb n f args s = some (v, s')) : CSem P tb f args s v s' :=
  call_ok TB HN (evN_ok TB HN n) f args s v s' h
end Go.Proofs.Ae
namespace Go.Proofs.Ae
variable {tb : Tb}
def Le (f g : Ex) : Prop := ∀ c a s r, f c a s = some r → g c a s = some r
variable {f g : Ex}
theorem bodyEnd_mono {rs : List ResultVar} {x y : Option (AX × AA × St)} (h : ∀ r, x = some r → y = some r) {r : List ADef × Tr Value × List ResultVar × St} (hr : bodyEnd rs x = some r) : bodyEnd rs y = some r := by
  cases x with
  | none => cases hr
  | some p => rw [h p rfl]; exact hr
theorem enterFn_mono {f g : Ex} (H : Le f g) {k : FuncId} {args : List Value} {s : St} {o : Option Func} {r : List ADef × Tr Value × List ResultVar × St} (h : enterFn f k args s o = some r) : enterFn g k args s o = some r := by
  cases o with
  | none => cases h
  | some fn =>
    simp only [enterFn] at h ⊢
    split at h
    · cases h
    · rename_i c hc
      obtain ⟨hb, h⟩ := bif_some h
      rw [hb]
      exact bodyEnd_mono (fun r hr => H _ _ _ _ hr) h
theorem call0_mono (H : Le f g) {k : FuncId} {args : List Value} {s : St} {r : Value × St} (h : call0 tb f k args s = some r) : call0 tb g k args s = some r := by
  unfold call0 at h ⊢
  split at h
  · exact h
  · rename_i hn
    split at h
    · rename_i tm rs s' he
      rw [enterFn_mono H he]
      exact h
    · cases h
theorem codeD_mono (H : Le f g) : Le (codeD tb f) (codeD tb g) := by
  intro c
  induction c with
  | region id ops draw => intro a s r h; exact h
  | seq y z ihy ihz =>
    intro a s r h
    obtain ⟨a1, s1, h1, h2⟩ := seqD_some (show seqD (f z) (codeD tb f y a s) = some r from h)
    change seqD (g z) (codeD tb g y a s) = some r
    rw [ihy _ _ _ h1]
    exact H _ _ _ _ h2
  | _ => intro a s r h; cases h
theorem leaveO_mono {x y : Option (Value × St)} (h : ∀ r, x = some r → y = some r) {r : St} (hr : leaveO x = some r) : leaveO y = some r := by
  cases x with
  | none => cases hr
  | some p => rw [h p rfl]; exact hr
theorem leaveOne_mono (H : Le f g) {d : ADef} {s r : St} (h : leaveOne tb f d s = some r) : leaveOne tb g d s = some r := by
  cases d with
  | mark id => exact h
  | call k args =>
    simp only [leaveOne] at h ⊢
    split at h
    · cases h
    · rename_i hn
      rcases bif_cases h with ⟨hb, h⟩ | ⟨hb, h⟩
      · rw [hb]; exact leaveO_mono (fun r hr => call0_mono (codeD_mono H) hr) h
      · rw [hb]; exact leaveO_mono (fun r hr => call0_mono H hr) h
theorem leaveA_mono (H : Le f g) : ∀ {ds : List ADef} {s r : St}, leaveA tb f ds s = some r → leaveA tb g ds s = some r
  | [], s, r, h => h
  | d :: ds, s, r, h => by
    change (match leaveOne tb f d s with
      | some s' => leaveA tb f ds s'
      | none => none) = some r at h
    change (match leaveOne tb g d s with
      | some s' => leaveA tb g ds s'
      | none => none) = some r
    cases h1 : leaveOne tb f d s with
    | none => rw [h1] at h; cases h
    | some s1 =>
      rw [h1] at h
      rw [leaveOne_mono H h1]
      exact leaveA_mono H h
theorem callF_mono (H : Le f g) {k : FuncId} {args : List Value} {s : St} {r : Value × St} (h : callF tb f k args s = some r) : callF tb g k args s = some r := by
  unfold callF at h ⊢
  split at h
  · exact h
  · split at h
    · rename_i df tm rs s' he
      rw [enterFn_mono H he]
      simp only
      split at h
      · rename_i s2 hl
        rw [leaveA_mono H hl]
        exact h
      · cases h
    · cases h
theorem roundBody_mono (H : Le f g) {l : Nat} {b : Code} {a : AA} {s : St} {o : Option AObj} {r : Value × St} (h : roundBody f l b a s o = some r) : roundBody g l b a s o = some r := by
  unfold roundBody at h ⊢
  split at h
  · split at h
    · rename_i he
      rw [H _ _ _ _ he]
      exact h
    · cases h
  · cases h
theorem roundO_mono (H : Le f g) {l : Nat} {args : List Value} {s : St} {o : Option AObj} {r : Value × St} (h : roundO f l args s o = some r) : roundO g l args s o = some r := by
  unfold roundO at h ⊢
  split at h
  · obtain ⟨hb, h⟩ := bif_some h
    rw [hb]
    simp only [cond_true]
    split at h
    · rename_i he
      rw [H _ _ _ _ he]
      exact roundBody_mono H h
    · cases h
  · cases h
theorem stepR_mono (H : Le f g) {d : Option Tmp} {a : AA} {o : RO} {r : AA × St} (h : stepR tb f d a o = some r) : stepR tb g d a o = some r := by
  cases o with
  | none => cases h
  | some p =>
    obtain ⟨q, s⟩ := p
    cases q with
    | val v => exact h
    | skip => exact h
    | defer d => exact h
    | enter k args =>
      change (match callF tb f k args s with
        | some (v, s') => some (a.put d v, s')
        | none => none) = some r at h
      change (match callF tb g k args s with
        | some (v, s') => some (a.put d v, s')
        | none => none) = some r
      cases hc : callF tb f k args s with
      | none => rw [hc] at h; cases h
      | some p => rw [hc] at h; rw [callF_mono H hc]; exact h
    | round l args =>
      change (match roundO f l args s (s.get l) with
        | some (v, s') => some (a.put d v, s')
        | none => none) = some r at h
      change (match roundO g l args s (s.get l) with
        | some (v, s') => some (a.put d v, s')
        | none => none) = some r
      cases hc : roundO f l args s (s.get l) with
      | none => rw [hc] at h; cases h
      | some p => rw [hc] at h; rw [roundO_mono H hc]; exact h
theorem stepA_mono (H : Le f g) {o : Oper} {a : AA} {s : St} {r : AA × St} (h : stepA tb f o a s = some r) : stepA tb g o a s = some r := stepR_mono H h
theorem regA_mono (H : Le f g) {ops : List Oper} : ∀ {l : List Oper} {a : AA} {s : St} {r : AA × St}, regA tb f ops l a s = some r → regA tb g ops l a s = some r
  | [], a, s, r, h => h
  | o :: l, a, s, r, h => by
    rw [regA_cons] at h ⊢
    rcases bif_cases h with ⟨hb, h⟩ | ⟨hb, h⟩
    · rw [hb]
      simp only [cond_true]
      cases hs : stepA tb f o a s with
      | none => rw [hs] at h; cases h
      | some p =>
        rw [hs] at h
        rw [stepA_mono H hs]
        exact regA_mono H h
    · rw [hb]; exact regA_mono H h
theorem drawA_mono (H : Le f g) {ops : List Oper} : ∀ {l : List Oper} {i : Nat} {rd wr : List (Nat × Nat)} {a : AA} {s : St} {r : AA × St}, drawA tb f ops l i rd wr a s = some r → drawA tb g ops l i rd wr a s = some r
  | [], i, rd, wr, a, s, r, h => h
  | o :: l, i, rd, wr, a, s, r, h => by
    rw [drawA_cons] at h ⊢
    rcases bif_cases h with ⟨hb, h⟩ | ⟨hb, h⟩
    · rw [hb]
      simp only [cond_true]
      cases hs : stepA tb f o a (bare s) with
      | none => rw [hs] at h; cases h
      | some p =>
        rw [hs] at h
        rw [stepA_mono H hs]
        simp only at h ⊢
        rcases bif_cases h with ⟨he, h⟩ | ⟨he, h⟩
        · rw [he]
          obtain ⟨ha, h⟩ := bif_some h
          simp only [cond_true]
          rw [ha]
          exact drawA_mono H h
        · rw [he]
          obtain ⟨ha, h⟩ := bif_some h
          simp only [cond_false]
          rw [ha]
          exact drawA_mono H h
    · rw [hb]; exact drawA_mono H h
theorem rangeA_mono (H : Le f g) {o : Operand} {ps : List Tmp} {as bo : Code} {a : AA} {s : St} {r : AX × AA × St} (h : rangeA tb f o ps as bo a s = some r) : rangeA tb g o ps as bo a s = some r := by
  unfold rangeA at h ⊢
  obtain ⟨hb, h⟩ := bif_some' h
  rw [hb]
  simp only [cond_false]
  unfold rangeCallA at h ⊢
  split at h
  · split at h
    · rename_i hc
      rw [callF_mono H hc]
      exact h
    · cases h
  · cases h
theorem execA_mono (H : Le f g) : Le (execA tb f) (execA tb g) := by
  intro c a s r h
  cases c with
  | skip => exact h
  | region id ops draw =>
    cases draw with
    | false =>
      change normalO (regA tb f ops.toList ops.toList a s) = some r at h
      change normalO (regA tb g ops.toList ops.toList a s) = some r
      cases hr : regA tb f ops.toList ops.toList a s with
      | none => rw [hr] at h; cases h
      | some p => rw [hr] at h; rw [regA_mono H hr]; exact h
    | true =>
      change normalO (drawA tb f ops.toList ops.toList 0 [] [] a s) = some r at h
      change normalO (drawA tb g ops.toList ops.toList 0 [] [] a s) = some r
      cases hr : drawA tb f ops.toList ops.toList 0 [] [] a s with
      | none => rw [hr] at h; cases h
      | some p => rw [hr] at h; rw [drawA_mono H hr]; exact h
  | seq y z =>
    change seqO (f z) (f y a s) = some r at h
    change seqO (g z) (g y a s) = some r
    obtain ⟨x, a', s'⟩ := r
    rcases seqO_some h with ⟨a1, s1, h1, h2⟩ | ⟨h1, hx⟩
    · rw [H _ _ _ _ h1]; exact H _ _ _ _ h2
    · rw [h1] at h; rw [H _ _ _ _ h1]
      cases x with
      | normal => exact absurd rfl hx
      | exit id => rfl
      | ret => rfl
  | cond o y z =>
    change condO (f y a s) (f z a s) (evO a.tm o) = some r at h
    change condO (g y a s) (g z a s) (evO a.tm o) = some r
    unfold condO at h ⊢
    split at h
    · exact H _ _ _ _ h
    · exact H _ _ _ _ h
    · cases h
  | block id y =>
    change blockO id (f y a s) = some r at h
    change blockO id (g y a s) = some r
    cases hr : f y a s with
    | none => rw [hr] at h; cases h
    | some p => rw [hr] at h; rw [H _ _ _ _ hr]; exact h
  | loop y =>
    change seqO (f (.loop y)) (f y a s) = some r at h
    change seqO (g (.loop y)) (g y a s) = some r
    obtain ⟨x, a', s'⟩ := r
    rcases seqO_some h with ⟨a1, s1, h1, h2⟩ | ⟨h1, hx⟩
    · rw [H _ _ _ _ h1]; exact H _ _ _ _ h2
    · rw [h1] at h; rw [H _ _ _ _ h1]
      cases x with
      | normal => exact absurd rfl hx
      | exit id => rfl
      | ret => rfl
  | rangeFunc o ps as bo => exact rangeA_mono H (show rangeA tb f o ps.toList as bo a s = some r from h)
  | exit id => exact h
  | ret => exact h
  | label l => exact h
  | scope b => cases h
  | goto l => cases h
  | refuse m => cases h
theorem evN_succ (n : Nat) : Le (evN tb n) (evN tb (n + 1)) := by
  induction n with
  | zero => intro c a s r h; cases h
  | succ n ih => exact execA_mono ih
theorem evN_le {n m : Nat} (h : n ≤ m) : Le (evN tb n) (evN tb m) := by
  induction m with
  | zero =>
    have : n = 0 := by omega
    subst this
    exact fun _ _ _ _ h => h
  | succ m ih =>
    rcases Nat.lt_or_ge n (m + 1) with h1 | h1
    · exact fun c a s r hr => evN_succ m _ _ _ _ (ih (by omega) _ _ _ _ hr)
    · have : n = m + 1 := by omega
      subst this
      exact fun _ _ _ _ h => h
def X (tb : Tb) (c : Code) (a : AA) (s : St) (x : AX) (a' : AA) (s' : St) : Prop := ∃ n, evN tb n c a s = some (x, a', s')
def C (tb : Tb) (k : FuncId) (args : List Value) (s : St) (v : Value) (s' : St) : Prop := ∃ n, run tb n k args s = some (v, s')
def XR (tb : Tb) (ops l : List Oper) (a : AA) (s : St) (a' : AA) (s' : St) : Prop := ∃ n, regA tb (evN tb n) ops l a s = some (a', s')
def XD (tb : Tb) (ops l : List Oper) (i : Nat) (rd wr : List (Nat × Nat)) (a : AA) (s : St) (a' : AA) (s' : St) : Prop := ∃ n, drawA tb (evN tb n) ops l i rd wr a s = some (a', s')
theorem X.skip {a : AA} {s : St} : X tb .skip a s .normal a s := ⟨1, rfl⟩
theorem X.label {l : Nat} {a : AA} {s : St} : X tb (.label l) a s .normal a s := ⟨1, rfl⟩
theorem X.ret {a : AA} {s : St} : X tb .ret a s .ret a s := ⟨1, rfl⟩
theorem X.exit {id : Nat} {a : AA} {s : St} : X tb (.exit id) a s (.exit id) a s := ⟨1, rfl⟩
theorem X.region {id : Nat} {ops : Array Oper} {a a' : AA} {s s' : St} (h : XR tb ops.toList ops.toList a s a' s') : X tb (.region id ops false) a s .normal a' s' := by
  obtain ⟨n, h⟩ := h
  refine ⟨n + 1, ?_⟩
  change normalO (regA tb (evN tb n) ops.toList ops.toList a s) = _
  rw [h]; rfl
theorem X.draw {id : Nat} {ops : Array Oper} {a a' : AA} {s s' : St} (h : XD tb ops.toList ops.toList 0 [] [] a s a' s') : X tb (.region id ops true) a s .normal a' s' := by
  obtain ⟨n, h⟩ := h
  refine ⟨n + 1, ?_⟩
  change normalO (drawA tb (evN tb n) ops.toList ops.toList 0 [] [] a s) = _
  rw [h]; rfl
theorem X.seq {y z : Code} {a a1 a' : AA} {s s1 s' : St} {x : AX} (h : X tb y a s .normal a1 s1) (k : X tb z a1 s1 x a' s') : X tb (.seq y z) a s x a' s' := by
  obtain ⟨n, h⟩ := h
  obtain ⟨m, k⟩ := k
  refine ⟨max n m + 1, ?_⟩
  change seqO (evN tb (max n m) z) (evN tb (max n m) y a s) = _
  rw [evN_le (Nat.le_max_left n m) _ _ _ _ h]
  exact evN_le (Nat.le_max_right n m) _ _ _ _ k
theorem X.seq_out {y z : Code} {a a' : AA} {s s' : St} {x : AX} (h : X tb y a s x a' s') (hx : x ≠ .normal) : X tb (.seq y z) a s x a' s' := by
  obtain ⟨n, h⟩ := h
  refine ⟨n + 1, ?_⟩
  change seqO (evN tb n z) (evN tb n y a s) = _
  rw [h]
  cases x with
  | normal => exact absurd rfl hx
  | _ => rfl
theorem X.cond_true {o : Operand} {y z : Code} {a a' : AA} {s s' : St} {x : AX} (hc : evO a.tm o = .bool true) (h : X tb y a s x a' s') : X tb (.cond o y z) a s x a' s' := by
  obtain ⟨n, h⟩ := h
  refine ⟨n + 1, ?_⟩
  change condO (evN tb n y a s) (evN tb n z a s) (evO a.tm o) = _
  rw [hc]; exact h
theorem X.cond_false {o : Operand} {y z : Code} {a a' : AA} {s s' : St} {x : AX} (hc : evO a.tm o = .bool false) (h : X tb z a s x a' s') : X tb (.cond o y z) a s x a' s' := by
  obtain ⟨n, h⟩ := h
  refine ⟨n + 1, ?_⟩
  change condO (evN tb n y a s) (evN tb n z a s) (evO a.tm o) = _
  rw [hc]; exact h
theorem X.cond {o : Operand} {y z : Code} {a a' : AA} {s s' : St} {x : AX} {b : Bool} (hc : evO a.tm o = .bool b) (h : X tb (if b then y else z) a s x a' s') : X tb (.cond o y z) a s x a' s' := by
  cases b with
  | true => exact X.cond_true hc h
  | false => exact X.cond_false hc h
def outOf (id : Nat) : AX → AX
  | .exit j => if j = id then .normal else .exit j
  | x => x
theorem X.block {id : Nat} {y : Code} {a a' : AA} {s s' : St} {x : AX} (h : X tb y a s x a' s') : X tb (.block id y) a s (outOf id x) a' s' := by
  obtain ⟨n, h⟩ := h
  refine ⟨n + 1, ?_⟩
  change blockO id (evN tb n y a s) = _
  rw [h]
  cases x with
  | normal => rfl
  | ret => rfl
  | exit j =>
    unfold blockO outOf
    by_cases e : j = id
    · subst e; simp
    · have : Nat.beq j id = false := by
        cases hb : Nat.beq j id with
        | false => rfl
        | true => exact absurd (Nat.eq_of_beq_eq_true hb) e
      simp [this, e]
theorem X.loop {y : Code} {a a1 a' : AA} {s s1 s' : St} {x : AX} (h : X tb y a s .normal a1 s1) (k : X tb (.loop y) a1 s1 x a' s') : X tb (.loop y) a s x a' s' := by
  obtain ⟨n, h⟩ := h
  obtain ⟨m, k⟩ := k
  refine ⟨max n m + 1, ?_⟩
  change seqO (evN tb (max n m) (.loop y)) (evN tb (max n m) y a s) = _
  rw [evN_le (Nat.le_max_left n m) _ _ _ _ h]
  exact evN_le (Nat.le_max_right n m) _ _ _ _ k
theorem X.loop_out {y : Code} {a a' : AA} {s s' : St} {x : AX} (h : X tb y a s x a' s') (hx : x ≠ .normal) : X tb (.loop y) a s x a' s' := by
  obtain ⟨n, h⟩ := h
  refine ⟨n + 1, ?_⟩
  change seqO (evN tb n (.loop y)) (evN tb n y a s) = _
  rw [h]
  cases x with
  | normal => exact absurd rfl hx
  | _ => rfl
theorem XR.nil {ops : List Oper} {a : AA} {s : St} : XR tb ops [] a s a s := ⟨0, rfl⟩
theorem XR.step {ops l : List Oper} {o : Oper} {a a1 a' : AA} {s s1 s' : St} {n : Nat} (hw : wantedA ops o.guard a.tm = true) (h : stepA tb (evN tb n) o a s = some (a1, s1)) (k : XR tb ops l a1 s1 a' s') : XR tb ops (o :: l) a s a' s' := by
  obtain ⟨m, k⟩ := k
  refine ⟨max n m, ?_⟩
  rw [regA_cons, hw]
  simp only [cond_true]
  rw [stepA_mono (evN_le (Nat.le_max_left n m)) h]
  exact regA_mono (evN_le (Nat.le_max_right n m)) k
theorem XR.val {ops l : List Oper} {o : Oper} {a a' : AA} {s s1 s' : St} {v : Value} (hw : wantedA ops o.guard a.tm = true) (h : opA tb.ty s a.tm o.op = some (.val v, s1)) (k : XR tb ops l (a.put o.dst v) s1 a' s') : XR tb ops (o :: l) a s a' s' :=
  XR.step (n := 0) hw (by unfold stepA; rw [h]; rfl) k
theorem XR.do {ops l : List Oper} {o : Oper} {a a' : AA} {s s1 s' : St} (hw : wantedA ops o.guard a.tm = true) (h : opA tb.ty s a.tm o.op = some (.skip, s1)) (k : XR tb ops l (a.put o.dst undefA) s1 a' s') : XR tb ops (o :: l) a s a' s' :=
  XR.step (n := 0) hw (by unfold stepA; rw [h]; rfl) k
theorem XR.call {ops l : List Oper} {o : Oper} {a a' : AA} {s s1 s2 s' : St} {k : FuncId} {args : List Value} {v : Value} (hw : wantedA ops o.guard a.tm = true) (h : opA tb.ty s a.tm o.op = some (.enter k args, s1)) (hc : C tb k args s1 v s2)
    (kk : XR tb ops l (a.put o.dst v) s2 a' s') : XR tb ops (o :: l) a s a' s' := by
  obtain ⟨n, hc⟩ := hc
  refine XR.step (n := n) hw ?_ kk
  unfold stepA
  rw [h]
  change (match callF tb (evN tb n) k args s1 with
    | some (v, s') => some (a.put o.dst v, s')
    | none => none) = _
  rw [show callF tb (evN tb n) k args s1 = some (v, s2) from hc]
theorem XR.defer {ops l : List Oper} {o : Oper} {a a' : AA} {s s1 s' : St} {d : ADef} (hw : wantedA ops o.guard a.tm = true) (h : opA tb.ty s a.tm o.op = some (.defer d, s1)) (hr : a.rnd = false) (k : XR tb ops l ((⟨a.tm, d :: a.df, a.rnd, a.fid⟩ : AA).put o.dst undefA) s1 a' s') : XR tb ops (o :: l) a s a' s' := by
  refine XR.step (n := 0) hw ?_ k
  unfold stepA
  rw [h]
  change (bif a.rnd then none else some ((⟨a.tm, d :: a.df, a.rnd, a.fid⟩ : AA).put o.dst undefA, s1)) = _
  rw [hr]; rfl
theorem XR.pass {ops l : List Oper} {o : Oper} {a a' : AA} {s s' : St} (hw : wantedA ops o.guard a.tm = false) (k : XR tb ops l (a.put o.dst undefA) s a' s') : XR tb ops (o :: l) a s a' s' := by
  obtain ⟨m, k⟩ := k
  refine ⟨m, ?_⟩
  rw [regA_cons, hw]
  exact k
theorem C.nat {k : FuncId} {nat : List Value → St → Option (Value × St)} {args : List Value} {s s' : St} {v : Value} (hn : tb.nat k = some nat) (h : nat args s = some (v, s')) : C tb k args s v s' := by
  refine ⟨0, ?_⟩
  unfold run callF
  rw [hn]; exact h
theorem C.of {k : FuncId} {fn : Func} {c : Code} {args : List Value} {s s1 : St} {x : AX} {a1 : AA} {vs : List Value} (hn : tb.nat k = none) (hf : tb.fn.get k = some fn) (hb : fn.body = some c) (hl : args.length ≤ fn.ntmps)
    (h : X tb c ⟨argsTr args 0 .nil, [], false, k⟩ (bare s) x a1 s1) (hx : x = .normal ∨ x = .ret) (hd : a1.df = []) (hr : resA tb.ty s1 a1.tm fn.results.toList = some vs) : C tb k args s (tup vs) (keepMods s s1) := by
  obtain ⟨n, h⟩ := h
  refine ⟨n, ?_⟩
  have he : enterFn (evN tb n) k args s (tb.fn.get k) = some ([], a1.tm, fn.results.toList, s1) := by
    rw [hf]
    simp only [enterFn, hb]
    rw [Nat.ble_eq_true_of_le hl]
    change bodyEnd fn.results.toList (evN tb n c ⟨argsTr args 0 .nil, [], false, k⟩ (bare s)) = _
    rw [h]
    rcases hx with rfl | rfl
    · simp only [bodyEnd, hd]
    · simp only [bodyEnd, hd]
  unfold run callF
  rw [hn]
  simp only
  rw [he]
  simp only
  rw [show leaveA tb (evN tb n) [] s1 = some s1 from rfl]
  simp only [resultsA, hr]
end Go.Proofs.Ae
namespace Go.Proofs.Ae
variable {tb : Tb}
theorem evO_tmp (tm : Tr Value) (t : Nat) : evO tm (.tmp t) = tmA tm t := rfl
theorem evO_const (tm : Tr Value) (v : Value) : evO tm (.const v) = v := rfl
theorem evO_global (tm : Tr Value) (g : Nat) : evO tm (.global g) = .pointer (some ⟨g, 0, none⟩) := rfl
theorem evO_func (tm : Tr Value) (f : Nat) : evO tm (.func f) = .func (.func f) #[] #[] := rfl
theorem put_some_tm (a : AA) (d : Nat) (v : Value) : (a.put (some d) v).tm = a.tm.set d v := rfl
theorem put_none (a : AA) (v : Value) : a.put none v = a := rfl
theorem put_df (a : AA) (d : Option Tmp) (v : Value) : (a.put d v).df = a.df := by cases d <;> rfl
theorem put_fid (a : AA) (d : Option Tmp) (v : Value) : (a.put d v).fid = a.fid := by cases d <;> rfl
theorem tmA_other (tm : Tr Value) (d t : Nat) (v : Value) (h : t ≠ d) : tmA (tm.set d v) t = tmA tm t := by rw [tmA_set, if_neg h]
section ops
variable (T : Tr TI) (s : St) (tm : Tr Value)
theorem op_move (x : Operand) : opA T s tm (.move x) = some (.val (evO tm x), s) := rfl
theorem op_assign (x : Operand) : opA T s tm (.assign x) = some (.val (evO tm x), s) := rfl
theorem op_pick (c a b : Operand) : opA T s tm (.pick c a b) = pickA s (evO tm c) (evO tm a) (evO tm b) := rfl
theorem op_alloc (t : TypeId) : opA T s tm (.alloc t) = allocA s (T.get t) := rfl
theorem op_box (t : TypeId) (x : Operand) : opA T s tm (.box t x) = newA s (evO tm x).cells.toList := rfl
theorem op_build (t : TypeId) (ps : Array (Nat × Operand)) : opA T s tm (.build t ps) = buildA T s (evP tm ps.toList) (T.get t) := rfl
theorem op_buildSlice (t : TypeId) (n : Nat) (ps : Array (Nat × Operand)) : opA T s tm (.buildSlice t n ps) = buildSliceA s n (evP tm ps.toList) (elemA T (some t)) := rfl
theorem op_load (t : TypeId) (a : Operand) : opA T s tm (.load t a) = loadA s (evO tm a) (T.get t) := rfl
theorem op_store (t : TypeId) (a v : Operand) : opA T s tm (.store t a v) = storeA s (evO tm a) (evO tm v) (T.get t) := rfl
theorem op_nil (x : Operand) : opA T s tm (.nilCheck x) = nilA s (evO tm x) := rfl
theorem op_bin (op : BinOp) (xt : TypeId) (x y : Operand) (r : TypeId) : opA T s tm (.binOp op xt x y r) = valO s (binA T s op xt x y (evO tm x) (evO tm y)) := rfl
theorem op_un (op : UnOp) (xt : TypeId) (x : Operand) : opA T s tm (.unOp op xt x) = valO s (unA op (evO tm x)) := rfl
theorem op_conv (a b : TypeId) (x : Operand) : opA T s tm (.convert a b x) = convA T s (Nat.beq a b) (tyD T (some a)) (tyD T (some b)) (evO tm x) := rfl
theorem op_iface (t : TypeId) (x : Operand) : opA T s tm (.makeInterface t x) = mkIfaceA s t (evO tm x) (T.get t) := rfl
theorem op_func (fn : Fn) (a b : Array Operand) : opA T s tm (.makeFunc fn a b) = mkFuncA tm s fn a.toList b.toList := rfl
theorem op_mkSlice (t : TypeId) (l c : Operand) : opA T s tm (.makeSlice t l c) = mkSliceA s (evO tm l) (evO tm c) (elemA T (some t)) := rfl
theorem op_slice (t : TypeId) (x : Operand) (lo hi mx : Option Operand) : opA T s tm (.slice t x lo hi mx) = sliceA T s (evO tm x) (optO tm lo) (optO tm hi) (optO tm mx) (T.get t) := rfl
theorem op_fieldAddr (t : TypeId) (x : Operand) (f : Nat) : opA T s tm (.fieldAddr t x f) = fieldAddrA T s (evO tm x) f (T.get t) := rfl
theorem op_field (t : TypeId) (x : Operand) (f : Nat) : opA T s tm (.field t x f) = fieldA T s (evO tm x) f (T.get t) := rfl
theorem op_indexAddr (t : TypeId) (x i : Operand) : opA T s tm (.indexAddr t x i) = indexAddrA T s (evO tm x) (evO tm i) (T.get t) := rfl
theorem op_index (t : TypeId) (x i : Operand) : opA T s tm (.index t x i) = indexA T s (evO tm x) (evO tm i) (T.get t) := rfl
theorem op_lookup (t : TypeId) (x i : Operand) (ok : Bool) : opA T s tm (.lookup t x i ok) = lookupA T s (evO tm x) (evO tm i) ok (T.get t) := rfl
theorem op_mapUpd (t : TypeId) (m k v : Operand) : opA T s tm (.mapUpdate t m k v) = mapUpdA T s (evO tm m) (evO tm k) (evO tm v) (T.get t) := rfl
theorem op_assert (x : Operand) (u t : TypeId) (ok : Bool) : opA T s tm (.typeAssert x u t ok) = assertA s t ok (evO tm x) (T.get t) := rfl
theorem op_extract (x : Operand) (i : Nat) : opA T s tm (.extract x i) = extractA s i (evO tm x) := rfl
theorem op_builtin (b : Builtin) (args : Array Operand) (ats : Array TypeId) : opA T s tm (.call { callee := .builtin b, args := args, argTypes := ats }) = builtinA T s b ats.toList (evL tm args.toList) := rfl
theorem op_call (f : Operand) (args : Array Operand) (ats : Array TypeId) : opA T s tm (.call { callee := .value f, args := args, argTypes := ats }) = callV s (evL tm args.toList) (evO tm f) := rfl
theorem evL_nil : evL tm [] = [] := rfl
theorem evL_cons (x : Operand) (l : List Operand) : evL tm (x :: l) = evO tm x :: evL tm l := rfl
theorem optO_none : optO tm none = none := rfl
theorem optO_some (x : Operand) : optO tm (some x) = some (evO tm x) := rfl
theorem wanted_none (ops : List Oper) : wantedA ops none tm = true := rfl
end ops
section pieces
variable (T : Tr TI) (s : St)
theorem valO_so (v : Value) : valO s (some v) = some (.val v, s) := rfl
theorem valS_so (v : Value) (s' : St) : valS (some (v, s')) = some (.val v, s') := rfl
theorem skipO_so (s' : St) : skipO (some s') = some (.skip, s') := rfl
theorem pickA_true (a b : Value) : pickA s (.bool true) a b = some (.val a, s) := rfl
theorem pickA_false (a b : Value) : pickA s (.bool false) a b = some (.val b, s) := rfl
theorem boolO_some (b : Bool) : boolO (some b) = some (.bool b) := rfl
theorem notO_some (b : Bool) : notO (some b) = some (.bool !b) := rfl
theorem allocA_some (ti : TI) : allocA s (some ti) = newA s ti.zero.cells.toList := rfl
theorem newA_eq (l : List Value) : newA s l = some (.val (.pointer (some ⟨s.next, 0, none⟩)), s.alloc (.cells l .exact)) := rfl
theorem nilA_ptr (a : Addr) : nilA s (.pointer (some a)) = some (.val (.pointer (some a)), s) := rfl
theorem bin_int (op : BinOp) (t : TypeId) (xo yo : Operand) (k : IntKind) (a b : Int) : binA T s op t xo yo (.int k a) (.int k b) = intA op k a b := by
  simp [binA]
theorem bin_str (op : BinOp) (t : TypeId) (xo yo : Operand) (a b : ByteArray) : binA T s op t xo yo (.string a) (.string b) = strA op a b := rfl
theorem int_add (k : IntKind) (a b : Int) : intA .add k a b = some (.int k (k.wrap (a + b))) := by simp [intA, addI_eq]
theorem int_sub (k : IntKind) (a b : Int) : intA .sub k a b = some (.int k (k.wrap (a - b))) := by simp [intA, subI_eq]
theorem int_mul (k : IntKind) (a b : Int) : intA .mul k a b = some (.int k (k.wrap (a * b))) := by simp [intA, mulI_eq]
theorem int_eql (k : IntKind) (a b : Int) : intA .eql k a b = some (.bool (decide (a = b))) := by simp [intA, eqI_eq]; rfl
theorem int_neq (k : IntKind) (a b : Int) : intA .neq k a b = some (.bool (!decide (a = b))) := by simp [intA, eqI_eq]; rfl
theorem int_lss (k : IntKind) (a b : Int) : intA .lss k a b = some (.bool (decide (a < b))) := by simp [intA, ltI_eq]
theorem int_leq (k : IntKind) (a b : Int) : intA .leq k a b = some (.bool (decide (a ≤ b))) := by
  simp only [intA, ltI_eq, Option.some.injEq, Value.bool.injEq]
  by_cases h : b < a <;> simp [h] <;> omega
theorem int_gtr (k : IntKind) (a b : Int) : intA .gtr k a b = some (.bool (decide (b < a))) := by simp [intA, ltI_eq]
theorem int_geq (k : IntKind) (a b : Int) : intA .geq k a b = some (.bool (decide (b ≤ a))) := by
  simp only [intA, ltI_eq, Option.some.injEq, Value.bool.injEq]
  by_cases h : a < b <;> simp [h] <;> omega
theorem conv_int (T : Tr TI) (same : Bool) (k k' : IntKind) (j : IntKind) (n : Int) : convA T s same (.int k) (.int k') (.int j n) = some (.val (.int k' (k'.wrap n)), s) := rfl
theorem builtin_len (x : Value) (t : TypeId) : builtinA T s .len [t] [x] = lenA s (tyD T (some t)) x := rfl
theorem len_slice (e : TypeId) (a : Option Addr) (n c : Nat) : lenA s (.slice e) (.slice a n c) = some (.val (.int .i64 n), s) := rfl
theorem len_string (b : ByteArray) : lenA s .string (.string b) = some (.val (.int .i64 b.data.toList.length), s) := rfl
theorem len_array (n : Nat) (e : TypeId) (v : Value) : lenA s (.array n e) v = some (.val (.int .i64 n), s) := by cases v <;> rfl
end pieces
attribute [push_cast] evO_tmp evO_const evO_global evO_func put_some_tm put_none put_df put_fid put_rnd tmA_set
attribute [push_cast] op_move op_assign op_pick op_alloc op_box op_build op_buildSlice op_load op_store op_nil op_bin op_un op_conv op_iface op_func op_mkSlice op_slice op_fieldAddr op_field op_indexAddr op_index op_lookup op_mapUpd op_assert op_extract op_builtin op_call evL_nil evL_cons optO_none optO_some wanted_none
attribute [push_cast] valO_so valS_so skipO_so pickA_true pickA_false boolO_some notO_some allocA_some newA_eq nilA_ptr bin_int bin_str int_add int_sub int_mul int_eql int_neq int_lss int_leq int_gtr int_geq conv_int builtin_len len_slice len_string len_array
attribute [push_cast] St.get_upd_self St.get_upd_ne St.get_alloc_self St.get_alloc_ne St.next_upd St.next_alloc
end Go.Proofs.Ae
