/- A part of the proof that the program's function answers true: lemmas (RefL to NatAOk) on carrying the program out over names of memory objects. No condition. -/
import Derived.Test.YtmchinghfbdlkaaGreatDoorAe11
import Derived.Maps.RangeRun
set_option linter.unusedVariables false
set_option linter.unusedSimpArgs false
namespace Go.Proofs.Ae
open Go.Proofs
theorem mulW {a : Nat} (ha : a < 256) (p : Nat) (hp : p ≤ 16777216) : IntKind.u32.wrap (IntKind.u32.wrap (a : Int) * (p : Int)) = ((a * p : Nat) : Int) := by
  rw [wrap32, Nat.mod_eq_of_lt (by omega), show ((a : Nat) : Int) * (p : Int) = ((a * p : Nat) : Int) from (Int.natCast_mul a p).symm, wrap32]
  congr 1
  refine Nat.mod_eq_of_lt ?_
  have : a * p ≤ 255 * 16777216 := Nat.mul_le_mul (by omega) hp
  omega
theorem rwd_nat (l : List Nat) (hb : bytesB l) (n : Nat) : rwd (nI l) n = ((wd l n : Nat) : Int) := by
  have h0 := hb (4 * n)
  have h1 := hb (4 * n + 1)
  have h2 := hb (4 * n + 2)
  have h3 := hb (4 * n + 3)
  rw [rwd, atI_nI, atI_nI, atI_nI, atI_nI, show (16777216 : Int) = ((16777216 : Nat) : Int) from rfl, show (65536 : Int) = ((65536 : Nat) : Int) from rfl, show (256 : Int) = ((256 : Nat) : Int) from rfl,
    mulW h0 _ (by omega), mulW h1 _ (by omega), mulW h2 _ (by omega), wrap32, add32, add32, add32]
  congr 1
  unfold wd
  omega
theorem rws_nat (l : List Nat) (hb : bytesB l) : ∀ n, 4 * n ≤ l.length → rws (nI l) n = nI (words4 n l)
  | 0, _ => rfl
  | n + 1, h => by rw [rws, rws_nat l hb n (by omega), words4_snoc n l h, nI_append, rwd_nat l hb]; rfl
theorem rmore_nat (w : List Nat) (hw : all32 w) (j : Nat) :
    rmore (nI w) (16 + j) = (((w.getD j 0 + sig0 (w.getD (j + 1) 0) + w.getD (j + 9) 0 + sig1 (w.getD (j + 14) 0)) % m32 : Nat) : Int) := by
  unfold rmore
  rw [atI_nI, atI_nI, atI_nI, atI_nI, show 16 + j - 16 = j from by omega, show 16 + j - 15 = j + 1 from by omega, show 16 + j - 7 = j + 9 from by omega, show 16 + j - 2 = j + 14 from by omega]
  have hx := hw (j + 1)
  have hy := hw (j + 14)
  have sB : ∀ (x r : Nat), x < 4294967296 → x / 2 ^ r < 4294967296 := fun x r h => Nat.lt_of_le_of_lt (Nat.div_le_self _ _) h
  rw [rrV_nat hx (by omega), rrV_nat hx (by omega), rrV_nat hy (by omega), rrV_nat hy (by omega), show (3 : Int) = ((3 : Nat) : Int) from rfl, show (10 : Int) = ((10 : Nat) : Int) from rfl, shr32 _ _ (by omega), shr32 _ _ (by omega),
    xorW_nat (rotB _ _ hx) (rotB _ _ hx), xorW_nat (rotB _ _ hy) (rotB _ _ hy), xorW_nat (xorB (rotB _ _ hx) (rotB _ _ hx)) (sB _ _ hx), xorW_nat (xorB (rotB _ _ hy) (rotB _ _ hy)) (sB _ _ hy), add32, add32, add32]
  congr 1
  unfold sig0 sig1 m32
  have hs3 : ∀ x r, Nat.shiftRight x r = x / 2 ^ r := fun x r => Nat.shiftRight_eq_div_pow x r
  rw [hs3, hs3]
  omega
theorem rgrow_nat (l : List Nat) (hl : l.length = 16) (h : all32 l) : ∀ k, rgrow (nI l) k = nI (ext l k)
  | 0 => rfl
  | k + 1 => by
    have hlen := ext_len l k
    rw [rgrow, rgrow_nat l hl h k, nI_len, hl, rmore_nat _ (ext_all l h hl k) k, ext, nI_append]
    congr 1
    rw [nextW_get _ (by rw [List.length_drop]; omega), getD_drop, getD_drop, getD_drop, getD_drop]
    rfl
theorem rS_nat {x : Nat} (hx : x < 4294967296) (a b c : Nat) (ha : a ≤ 32) (hb : b ≤ 32) (hc : c ≤ 32) : rS (x : Int) a b c = ((Nat.xor (Nat.xor (rotr x a) (rotr x b)) (rotr x c) : Nat) : Int) := by
  rw [rS, rrV_nat hx ha, rrV_nat hx hb, rrV_nat hx hc, xorW_nat (rotB _ _ hx) (rotB _ _ hx), xorW_nat (xorB (rotB _ _ hx) (rotB _ _ hx)) (rotB _ _ hx)]
theorem rround_nat (s : S8) (hs : s.ok) (k w : Nat) : rround (nI (s8L s)) (k : Int) (w : Int) = nI (s8L (round8 s k w)) := by
  obtain ⟨a, b, c, d, e, f, g, h⟩ := s
  obtain ⟨ha, hb, hc, hd, he, hf, hg, hh⟩ := hs
  simp only at ha hb hc hd he hf hg hh
  have hT : rT (nI (s8L ⟨a, b, c, d, e, f, g, h⟩)) (k : Int) (w : Int) = (((h + Nat.xor (Nat.xor (rotr e 6) (rotr e 11)) (rotr e 25) + Nat.xor (Nat.land e f) (Nat.land (Nat.xor e 4294967295) g) + k + w) % 4294967296 : Nat) : Int) := by
    have h1 := rS_nat he 6 11 25 (by omega) (by omega) (by omega)
    have h2 : xorW (andW (e : Int) (f : Int)) (andW (notW (e : Int)) (g : Int)) = ((Nat.xor (Nat.land e f) (Nat.land (Nat.xor e 4294967295) g) : Nat) : Int) := by
      rw [notW_nat he, andW_nat he hf, andW_nat (xorB he (by omega)) hg, xorW_nat (andB he) (andB (xorB he (by omega)))]
    change IntKind.u32.wrap (IntKind.u32.wrap (IntKind.u32.wrap (IntKind.u32.wrap ((h : Int) + rS (e : Int) 6 11 25) + xorW (andW (e : Int) (f : Int)) (andW (notW (e : Int)) (g : Int))) + (k : Int)) + (w : Int)) = _
    rw [h1, h2, add32, add32, add32, add32]
    congr 1
    omega
  have hz := rS_nat ha 2 13 22 (by omega) (by omega) (by omega)
  have hm : xorW (xorW (andW (a : Int) (b : Int)) (andW (a : Int) (c : Int))) (andW (b : Int) (c : Int)) = ((Nat.xor (Nat.xor (Nat.land a b) (Nat.land a c)) (Nat.land b c) : Nat) : Int) := by
    rw [andW_nat ha hb, andW_nat ha hc, andW_nat hb hc, xorW_nat (andB ha) (andB ha), xorW_nat (xorB (andB ha) (andB ha)) (andB hb)]
  have hR : rround (nI (s8L ⟨a, b, c, d, e, f, g, h⟩)) (k : Int) (w : Int) =
    [IntKind.u32.wrap (IntKind.u32.wrap (rT (nI (s8L ⟨a, b, c, d, e, f, g, h⟩)) (k : Int) (w : Int) + rS (a : Int) 2 13 22) + xorW (xorW (andW (a : Int) (b : Int)) (andW (a : Int) (c : Int))) (andW (b : Int) (c : Int))), (a : Int), (b : Int), (c : Int),
      IntKind.u32.wrap ((d : Int) + rT (nI (s8L ⟨a, b, c, d, e, f, g, h⟩)) (k : Int) (w : Int)), (e : Int), (f : Int), (g : Int)] := rfl
  rw [hR, hT, hz, hm, add32, add32, add32]
  unfold round8 s8L nI
  simp only [List.map_cons, List.map_nil]
  have e1 : ∀ x y z : Nat, ((x % 4294967296 + y) % 4294967296 + z) % 4294967296 = (x + (y + z)) % m32 := fun x y z => by unfold m32; omega
  have e2 : ∀ x y : Nat, (x + y % 4294967296) % 4294967296 = (x + y) % m32 := fun x y => by unfold m32; omega
  rw [e1, e2]
  rfl
theorem rrounds_nat (ks ws : List Nat) (s : S8) (hs : s.ok) : ∀ j, rrounds (nI ks) (nI ws) (nI (s8L s)) j = nI (s8L (rndN ks ws s j))
  | 0 => rfl
  | j + 1 => by rw [rrounds, rrounds_nat ks ws s hs j, atI_nI, atI_nI, rround_nat _ (rndN_ok ks ws s hs j)]; rfl
theorem rchg_nat (s : S8) (hs : s.ok) (l : List Nat) (hl : l.length = 64) (hb : bytesB l) : rchgW (nI (s8L s)) (nI l) = nI (s8L (compress s l)) := by
  have hw := words4_len 16 l (by omega)
  have h1 := rounds8_eq (words4 16 l) kSha hw 64 s 64 0 rfl (by decide)
  have h2 : rndN kSha (ext (words4 16 l) 48) s 64 = rndN kSha (ext (words4 16 l) 64) s 64 := rndN_congr _ _ _ _ 64 fun i hi => (ext_get _ 48 64 i (by omega) (by omega)).symm
  have hk : kSha.length = 64 := rfl
  rw [List.drop_zero, hk] at h1
  have h3 : rounds8 kSha (words4 16 l) s = rndN kSha (ext (words4 16 l) 64) s 64 := by
    rw [show (ext (words4 16 l) 0).drop 0 = words4 16 l from List.drop_zero] at h1
    exact h1
  rw [rchgW, rws_nat l hb 16 (by omega), rgrow_nat _ hw (words_all hb 16 (by omega)) 48, kL_nI, rrounds_nat _ _ s hs, h2, addS_nat, ← h3]
  rfl
end Go.Proofs.Ae
namespace Go.Proofs.Ae
open Go.Proofs
variable {tb : Tb} {P : Program}
theorem Ext.laid {ι : Io} {g : Hp} {w : World} (G : Good tb ι g w) {n : Nat} (hf : g n = none) (o : AObj) (L : Loc) (w' : World) (M : List Nat)
    (hio : o.inD (roomy ι g)) (hos : w'.os = w.os) (htape : w'.tape = w.tape) (hout : w'.output = w.output) (hsize : w.heap.size ≤ w'.heap.size)
    (hold : ∀ b, b < w.heap.size → w'.heap[b]? = w.heap[b]?) (hnew : o.writable = false ∧ o.solid = false ∨ w.heap.size ≤ L.block) (hok : ObjOk tb (upI ι n L) w' L o) :
    Ext tb ι g w (upI ι n L) (hset g n o) w' M := by
  have hag : ∀ i, hdom g i → upI ι n L i = ι i := fun i hi => upI_ne _ _ _ (ne_of_hdom hf hi)
  refine ⟨⟨?_, ?_, ?_, fun i hi => ⟨hdom_hset (G.glob i hi).1, by rw [hag i (G.glob i hi).1]; exact (G.glob i hi).2⟩⟩, hag, fun i hi => hdom_hset hi, ?_, hsize, hos, htape, hout, fun b hb _ => hold b hb, ?_⟩
  · intro id o1 h1
    by_cases e : id = n
    · subst e
      rw [hset_self] at h1; cases h1
      rw [upI_self]; exact hok
    · rw [hset_ne _ _ _ _ e] at h1
      rw [upI_ne _ _ _ e]
      exact (G.obj id o1 h1).mono (fun i k h => hag i h.1) (G.closed id o1 h1) (fun hs => hold _ ((G.obj id o1 h1).lt hs))
  · intro id o1 id' o2 h1 h2 hw hs hne
    by_cases e : id = n
    · subst e
      rw [hset_self] at h1; cases h1
      rw [hset_ne _ _ _ _ hne] at h2
      rw [upI_self, upI_ne _ _ _ hne]
      have hlt := (G.obj id' o2 h2).lt hs
      rcases hnew with ⟨hr, _⟩ | hL
      · rw [hw] at hr; cases hr
      · omega
    · rw [hset_ne _ _ _ _ e] at h1
      rw [upI_ne _ _ _ e]
      by_cases e' : id' = n
      · subst e'
        rw [hset_self] at h2; cases h2
        rw [upI_self]
        have hlt := (G.obj id o1 h1).lt (solid_of_writable hw)
        rcases hnew with ⟨_, hr⟩ | hL
        · rw [hs] at hr; cases hr
        · omega
      · rw [hset_ne _ _ _ _ e'] at h2
        rw [upI_ne _ _ _ e']
        exact G.apart id o1 id' o2 h1 h2 hw hs hne
  · intro id o1 h1
    by_cases e : id = n
    · subst e
      rw [hset_self] at h1; cases h1
      exact AObj.inD_mono (roomy_mono hag fun i hi => hdom_hset hi) hio
    · rw [hset_ne _ _ _ _ e] at h1
      exact AObj.inD_mono (roomy_mono hag fun i hi => hdom_hset hi) (G.closed id o1 h1)
  · intro i o1 h1 _
    rw [hset_ne _ _ _ _ (ne_of_hdom hf (hdom_of h1))]; exact h1
  · intro i o1 hn h1 hs
    have e : i = n := Classical.byContradiction fun e => hn (by unfold hdom; rw [hset_ne _ _ _ _ e] at h1; rw [h1]; simp)
    subst e
    rw [hset_self] at h1; cases h1
    rw [upI_self]
    rcases hnew with ⟨_, hr⟩ | hL
    · rw [hs] at hr; cases hr
    · exact .inl (by omega)
theorem CSem.only {f : FuncId} {args : List Value} {s s1 : St} {rb n c : Nat} {o : AObj} (h : CSem P tb f args (bare s) (.slice (some ⟨rb, 0, none⟩) n c) s1) (hok : s.Ok) (hrb : s.next ≤ rb) (hg : s1.get rb = some o) (hin : o.inD (fun _ _ => False)) (hsol : o.solid = true) (hc : c < cap0)
    (hM : ∀ i ∈ s1.mods, ∀ o, s.get i = some o → o.writable = false) : CSem P tb f args s (.slice (some ⟨s.next, 0, none⟩) n c) (s.alloc o) := by
  obtain ⟨h1, h2, h3⟩ := h
  refine ⟨fun _ => Ev.alloc o hok.fresh, h2, fun F ι w _ G hargs hF => (h3 F ι w hok G hargs hF).mono fun e w' ⟨ι', k1, k2, k3⟩ => ?_⟩
  have B : Beneath w w' := k2.below hM
  have hnd : ¬ hdom (bare s).get rb := fun hd => by have := hok rb hd; omega
  have hblk : w.heap.size ≤ (ι' rb).block := by
    rcases k2.fresh rb o hnd hg hsol with hb | ⟨b, oB, hb, hgb, hw, _⟩
    · exact hb
    · have := hM b hb oB hgb
      rw [hw] at this; cases this
  refine ⟨upI ι s.next (ι' rb), ?_, ?_, ?_⟩
  · rw [k1]
    simp only [conc, addrC, capC, hc, if_true, upI_self]
  · rw [St.get_alloc]
    exact Ext.laid G hok.fresh o (ι' rb) w' _ (AObj.inD_mono (fun _ _ h => h.elim) hin) B.os B.tape B.output B.size B.old (.inr hblk)
      ((k2.good.obj rb o hg).mono (D := fun _ _ => False) (fun _ _ h => h.elim) hin (fun _ => rfl))
  · simp only [inD, needR, hc, if_true, roomy]
    refine ⟨?_, Nat.zero_le _⟩
    unfold hdom
    rw [St.get_alloc_self]; simp
end Go.Proofs.Ae
namespace Go.Proofs.Ae
open Go.Proofs
def eqU32 : List Value → List Nat → Bool
  | [], [] => true
  | .int .u32 (.ofNat n) :: vs, m :: ms => Nat.beq n m && eqU32 vs ms
  | _, _ => false
theorem eqU32_spec : ∀ (c : List Value) (ks : List Nat), eqU32 c ks = true → c = u32s (nI ks)
  | [], [], _ => rfl
  | .int .u32 (.ofNat n) :: vs, m :: ms, h => by
    simp only [eqU32, Bool.and_eq_true] at h
    have := Nat.eq_of_beq_eq_true h.1
    subst this
    rw [eqU32_spec vs ms h.2]; rfl
  | [], _ :: _, h => by simp [eqU32] at h
  | v :: vs, [], h => by unfold eqU32 at h; split at h <;> simp_all
def roU32 (ks : List Nat) : Option AObj → Bool
  | some (.cells c .ro) => eqU32 c ks
  | _ => false
theorem roU32_spec {ks : List Nat} {o : Option AObj} (h : roU32 ks o = true) : o = some (.cells (u32s (nI ks)) .ro) := by
  unfold roU32 at h
  split at h
  · rw [eqU32_spec _ _ h]
  · cases h
noncomputable def srcN (s : St) : Value → Option (List Nat)
  | .slice none n c => bif Nat.beq n 0 && Nat.beq c 0 then some [] else none
  | .slice (some a) n _ => match a.spot with
    | none => match cellsAt s a n with
      | some l => natOf l
      | none => none
    | some _ => none
  | _ => none
theorem natOf_cons (v : Value) (l : List Value) : natOf (v :: l) = (match v with
      | .int .u8 (.ofNat n) => bif Nat.ble n 255 then (match natOf l with | some r => some (n :: r) | none => none) else none
      | _ => none) := rfl
theorem natOf_spec : ∀ (l : List Value) (ns : List Nat), natOf l = some ns → l = u8s (nI ns) ∧ ∀ x ∈ ns, x < 256
  | [], ns, h => by cases h; exact ⟨rfl, fun x hx => by cases hx⟩
  | v :: l, ns, h => by
    rw [natOf_cons] at h
    split at h
    · rename_i n
      cases hb : Nat.ble n 255 with
      | false => rw [hb] at h; cases h
      | true =>
        rw [hb, cond_true] at h
        cases hr : natOf l with
        | none => rw [hr] at h; cases h
        | some r =>
          rw [hr] at h
          cases h
          obtain ⟨h1, h2⟩ := natOf_spec l r hr
          refine ⟨by rw [h1]; rfl, fun x hx => ?_⟩
          rcases List.mem_cons.1 hx with rfl | hx
          · have := Nat.le_of_ble_eq_true hb; omega
          · exact h2 x hx
    · cases h
theorem srcN_spec {s : St} {v : Value} {l : List Nat} (h : srcN s v = some l) : Src s v (nI l) ∧ bytesB l := by
  unfold srcN at h
  split at h
  · rename_i n c
    cases hb : Nat.beq n 0 && Nat.beq c 0 with
    | false => rw [hb] at h; cases h
    | true =>
      rw [hb, cond_true] at h
      cases h
      rw [Bool.and_eq_true] at hb
      have h1 := Nat.eq_of_beq_eq_true hb.1
      have h2 := Nat.eq_of_beq_eq_true hb.2
      subst h1; subst h2
      exact ⟨.nil, fun i => by simp⟩
  · rename_i a n c
    obtain ⟨b, o, sp⟩ := a
    cases sp with
    | some x => simp at h
    | none =>
      simp only at h
      cases hc : cellsAt s ⟨b, o, none⟩ n with
      | none => rw [hc] at h; cases h
      | some cs =>
        rw [hc] at h
        simp only at h
        obtain ⟨h1, h2⟩ := natOf_spec cs l h
        subst h1
        refine ⟨?_, bytesB.of_mem h2⟩
        simp only [cellsAt] at hc
        cases hg : s.get b with
        | none => rw [hg] at hc; cases hc
        | some ob =>
          rw [hg] at hc
          cases ob with
          | cells cc m =>
            simp only [cellsOf, dropX_eq] at hc
            obtain ⟨k1, k2⟩ := takeX_some hc
            rw [u8s_len] at k2
            subst k2
            refine .at b o c (nI l) ⟨cc, m, hg, fun p hp => ?_⟩
            have : (u8s (nI l))[p]? = cc[o + p]? := by rw [k1, List.getElem?_take_of_lt hp, List.getElem?_drop]
            rw [← this, u8s_get hp]
          | _ => cases hc
  · cases h
noncomputable def nMacB : NatF := fun args s => match args with
  | [.string k, b] => match srcN s b with
    | some l => bif Nat.ble (strN k).length 100000000000 && Nat.ble l.length 100000000000 && roU32 hSha (s.get 2) && roU32 kSha (s.get 4) then
        some (.slice (some ⟨s.next, 0, none⟩) 32 32, s.alloc (.cells (bytesN (hmacB (strN k) l)) .exact)) else none
    | none => none
  | _ => none
theorem strI_nI (k : ByteArray) : strI k = nI (strN k) := by simp [strI, nI, strN]
theorem strN_bytes (k : ByteArray) : bytesB (strN k) := bytesB.of_mem fun x hx => by
  simp only [strN, List.mem_map] at hx
  obtain ⟨c, _, rfl⟩ := hx
  exact c.toNat_lt
theorem bytesN_nI (l : List Nat) : bytesN l = u8s (nI l) := by simp [bytesN, u8s, nI]
theorem nMacB_ok : ∀ args s v s', nMacB args s = some (v, s') → CSem Tryz.prog tbH3 90 args s v s' := by
  intro args s v s' h
  unfold nMacB at h
  split at h
  · rename_i k b
    cases hs : srcN s b with
    | none => rw [hs] at h; cases h
    | some l =>
      rw [hs] at h
      simp only at h
      obtain ⟨hc, h⟩ := bif_some h
      cases h
      simp only [Bool.and_eq_true] at hc
      obtain ⟨⟨⟨h1, h2⟩, h3⟩, h4⟩ := hc
      have h1 := Nat.le_of_ble_eq_true h1
      have h2 := Nat.le_of_ble_eq_true h2
      have h3 := roU32_spec h3
      have h4 := roU32_spec h4
      obtain ⟨hsrc, hlb⟩ := srcN_spec hs
      refine CSem.ofOk (is_enters 90 Tryz.func90 (by kernel_rfl) (by kernel_rfl)) fun hok => ?_
      have hm := mac_C (bare s) hok k b (nI l) (by rw [strI_nI, nI_len]; exact h1) (hsrc.mono (s' := bare s) fun _ _ => rfl) (by rw [nI_len]; exact h2) h3 h4
      obtain ⟨v1, s1, ⟨n, hr⟩, hF, rb, hrb, rfl, hg⟩ := hm
      rw [strI_nI, mac_nat _ _ (strN_bytes k) (by omega) hlb (by omega), ← bytesN_nI] at hg
      refine CSem.only (run_ok tbH3_ok tbH3_nat hr) hok hrb hg ?_ rfl (by decide) fun i hi o ho => ?_
      · intro v hv
        simp only [bytesN, List.mem_map] at hv
        obtain ⟨n, _, rfl⟩ := hv
        simp [inD]
      · rcases hF.mods i hi with hi | hi | hi
        · cases hi
        · exact hi.elim
        · have := hok i (hdom_of ho)
          have : s.next ≤ i := hi
          omega
  · cases h
end Go.Proofs.Ae
namespace Go.Proofs.Ae
open Go.Proofs
noncomputable def s8Of : List Value → Option S8
  | [.int .u32 (.ofNat a), .int .u32 (.ofNat b), .int .u32 (.ofNat c), .int .u32 (.ofNat d), .int .u32 (.ofNat e), .int .u32 (.ofNat f), .int .u32 (.ofNat g), .int .u32 (.ofNat h)] =>
    bif Nat.ble a 4294967295 && (Nat.ble b 4294967295 && (Nat.ble c 4294967295 && (Nat.ble d 4294967295 && (Nat.ble e 4294967295 && (Nat.ble f 4294967295 && (Nat.ble g 4294967295 && Nat.ble h 4294967295)))))) then some ⟨a, b, c, d, e, f, g, h⟩ else none
  | _ => none
theorem s8Of_spec {cs : List Value} {x : S8} (h : s8Of cs = some x) : cs = u32s (nI (s8L x)) ∧ x.ok := by
  unfold s8Of at h
  split at h
  · rename_i a b c d e f g h'
    obtain ⟨hc, h⟩ := bif_some h
    cases h
    simp only [Bool.and_eq_true] at hc
    obtain ⟨h1, h2, h3, h4, h5, h6, h7, h8⟩ := hc
    have h1 := Nat.le_of_ble_eq_true h1
    have h2 := Nat.le_of_ble_eq_true h2
    have h3 := Nat.le_of_ble_eq_true h3
    have h4 := Nat.le_of_ble_eq_true h4
    have h5 := Nat.le_of_ble_eq_true h5
    have h6 := Nat.le_of_ble_eq_true h6
    have h7 := Nat.le_of_ble_eq_true h7
    have h8 := Nat.le_of_ble_eq_true h8
    exact ⟨rfl, Nat.lt_succ_of_le h1, Nat.lt_succ_of_le h2, Nat.lt_succ_of_le h3, Nat.lt_succ_of_le h4, Nat.lt_succ_of_le h5, Nat.lt_succ_of_le h6, Nat.lt_succ_of_le h7, Nat.lt_succ_of_le h8⟩
  · cases h
noncomputable def nRchgB : NatF := fun args s => match args with
  | [.agg a, .slice (some ad) n c] => match s8Of a.toList with
    | some x => match srcN s (.slice (some ad) n c) with
      | some l => bif Nat.beq n 64 && roU32 kSha (s.get 3) then some (.agg ((s8L (compress x l)).map fun y => Value.int .u32 (.ofNat y)).toArray, s) else none
      | none => none
    | none => none
  | _ => none
theorem u32s_nI (l : List Nat) : (l.map fun y => Value.int .u32 (.ofNat y)) = u32s (nI l) := by simp [u32s, nI]
theorem nRchgB_ok : ∀ args s v s', nRchgB args s = some (v, s') → CSem Tryz.prog tbH3 164 args s v s' := by
  intro args s v s' h
  unfold nRchgB at h
  split at h
  · rename_i a ad n c
    cases h1 : s8Of a.toList with
    | none => rw [h1] at h; cases h
    | some x =>
      rw [h1] at h
      simp only at h
      cases h2 : srcN s (.slice (some ad) n c) with
      | none => rw [h2] at h; cases h
      | some l =>
        rw [h2] at h
        simp only at h
        obtain ⟨hc, h⟩ := bif_some h
        cases h
        rw [Bool.and_eq_true] at hc
        have hn : n = 64 := Nat.eq_of_beq_eq_true hc.1
        have hk := roU32_spec hc.2
        obtain ⟨ha, hx⟩ := s8Of_spec h1
        obtain ⟨hs, hb⟩ := srcN_spec h2
        cases hs with
        | «at» b o cap l' hB =>
          have hll : l.length = 64 := by rw [← nI_len]; exact hn
          have hln : (nI l).length = 64 := hn
          rw [hln]
          refine CSem.ofOk (is_enters 164 Tryz.func164 (by kernel_rfl) (by kernel_rfl)) fun hok => ?_
          have hC := rchg_C (bare s) hok b o c (nI (s8L x)) (nI l) rfl hln hB hk
          rw [show a = (u32s (nI (s8L x))).toArray from by rw [← ha]]
          obtain ⟨v1, s1, ⟨m, hr⟩, rfl, hF⟩ := hC
          rw [rchg_nat x hx l hll hb, ← u32s_nI] at hr
          refine CSem.forgetAll (run_ok tbH3_ok tbH3_nat hr) (by rw [u32s_nI]; exact inD_u32s _ _) fun i hi o ho => ?_
          rcases hF.mods i hi with hi | hi | hi
          · cases hi
          · exact hi.elim
          · have := hok i (hdom_of ho)
            have : s.next ≤ i := hi
            omega
  · cases h
end Go.Proofs.Ae
namespace Go.Proofs.Ae
open Go.ChangeMaps (setBlock)
variable {P : Program} {tb : Tb}
theorem ObjOk.not_iter {ι : Io} {w : World} {L : Loc} {o : AObj} (h : ObjOk tb ι w L o) (hs : o.solid = true) {m : Option Nat} {s c : Nat} {seen : Array Nat} : w.heap[L.block]? ≠ some (.mapIter m s seen c) := by
  intro hi
  cases o with
  | dead => simp [AObj.solid] at hs
  | cells cs md =>
    cases md with
    | exact => obtain ⟨h1, h2, e, fz, h3, h4⟩ := h; rw [hi] at h3; cases h3
    | grow => obtain ⟨h1, rest, e, fz, h3, h4⟩ := h; rw [hi] at h3; cases h3
    | ro =>
      cases cs with
      | nil => simp [AObj.solid] at hs
      | cons x cs =>
        have := h 0 x rfl
        simp [World.cell?, hi] at this
  | map es => obtain ⟨h0, ms, clock, h1, h2⟩ := h; rw [hi] at h1; cases h1
  | loop st p fid tm ps asg bo d => obtain ⟨fn, tmps, N, h1, _⟩ := h; rw [hi] at h1; cases h1
  | deferred fresh =>
    have h : w.heap[L.block]? = some (.deferred (if fresh then some [] else none)) := h
    rw [hi] at h; cases h
theorem Good.poke {ι : Io} {g : Hp} {w w' : World} (G : Good tb ι g w) (r : Nat) (hne : ∀ i o, g i = some o → o.solid = true → (ι i).block ≠ r) (hh : ∀ b, b ≠ r → w'.heap[b]? = w.heap[b]?) : Good tb ι g w' :=
  ⟨fun i o h => (G.obj i o h).mono (D := roomy ι g) (fun _ _ _ => rfl) (G.closed i o h) (fun hs => hh _ (hne i o h hs)), G.apart, G.closed, G.glob⟩
theorem Ext.poke {ι ι' : Io} {g g' : Hp} {w w1 w' : World} {M : List Nat} (E : Ext tb ι g w ι' g' w1 M) (r : Nat) (hr : w.heap.size ≤ r) (hne : ∀ i o, g' i = some o → o.solid = true → (ι' i).block ≠ r) (hh : ∀ b, b ≠ r → w'.heap[b]? = w1.heap[b]?)
    (hos : w'.os = w1.os) (ht : w'.tape = w1.tape) (ho : w'.output = w1.output) (hz : w'.heap.size = w1.heap.size) : Ext tb ι g w ι' g' w' M :=
  ⟨E.good.poke r hne hh, E.agree, E.dom, E.stay, by rw [hz]; exact E.size, by rw [hos, E.os], by rw [ht, E.tape], by rw [ho, E.output],
    fun b hb hM => by rw [hh b (by omega)]; exact E.frame b hb hM, E.fresh⟩
def kvE (m : MapEntry) : Value × Value := (m.key, m.val)
theorem filter_nodup (e : MapEntry) : ∀ (L l1 l2 : List MapEntry), L = l1 ++ e :: l2 → (L.map (·.born)).Nodup → L.filter (fun x => !(x.born == e.born)) = l1 ++ l2 := by
  rintro L l1 l2 rfl hn
  rw [List.map_append, List.map_cons, List.nodup_append] at hn
  obtain ⟨h1, h2, h3⟩ := hn
  rw [List.nodup_cons] at h2
  rw [List.filter_append, List.filter_cons]
  have e1 : l1.filter (fun x => !(x.born == e.born)) = l1 := List.filter_eq_self.2 fun x hx => by
    have := h3 x.born (List.mem_map.2 ⟨x, hx, rfl⟩) e.born (by simp)
    simpa using this
  have e2 : l2.filter (fun x => !(x.born == e.born)) = l2 := List.filter_eq_self.2 fun x hx => by
    have : x.born ≠ e.born := fun he => h2.1 (by rw [← he]; exact List.mem_map.2 ⟨x, hx, rfl⟩)
    simpa using this
  rw [e1, e2]
  simp
theorem left_push (ms : Array MapEntry) (seen : Array Nat) (b : Nat) : (leftOf ms (seen.push b)).toList = (leftOf ms seen).toList.filter (fun x => !(x.born == b)) := by
  unfold leftOf
  rw [Array.toList_filter, Array.toList_filter, List.filter_filter]
  refine List.filter_congr fun x _ => ?_
  rw [contains_push]
  cases seen.contains x.born <;> cases (x.born == b) <;> rfl
theorem perm_lift {α β : Type} (f : α → β) : ∀ (es : List α) (l : List β), l.Perm (es.map f) → ∃ es' : List α, es'.Perm es ∧ es'.map f = l
  | [], l, h => by
    have : l = [] := List.Perm.eq_nil h
    exact ⟨[], .refl _, this.symm⟩
  | x :: es, l, h => by
    have hx : f x ∈ l := h.mem_iff.2 (by simp)
    obtain ⟨a, b, rfl⟩ := List.append_of_mem hx
    have h2 : (a ++ b).Perm (es.map f) := by
      have : (f x :: (a ++ b)).Perm (f x :: es.map f) := List.perm_middle.symm.trans h
      exact (List.perm_cons _).1 this
    obtain ⟨es', k1, k2⟩ := perm_lift f es _ h2
    obtain ⟨a', b', rfl, ha, hb⟩ := List.map_eq_append_iff.1 k2
    exact ⟨a' ++ x :: b', List.perm_middle.trans (k1.cons x), by rw [List.map_append, List.map_cons, ha, hb]⟩
theorem Ext.keeps {ι ι' : Io} {s : St} {g' : Hp} {w w' : World} {M : List Nat} (G : Good tb ι s.get w) (E : Ext tb ι s.get w ι' g' w' M) {ib : Nat} {mo : Option Nat} {sn c : Nat} {seen : Array Nat} (hi : w.heap[ib]? = some (.mapIter mo sn seen c)) : w'.heap[ib]? = w.heap[ib]? :=
  E.frame ib (Array.getElem?_eq_some_iff.1 hi).1 fun i hM o ho hw e => (G.obj i o ho).not_iter (solid_of_writable hw) (by rw [e]; exact hi)
theorem Ext.keepm {ι ι' : Io} {s : St} {g' : Hp} {w w' : World} {M : List Nat} (G : Good tb ι s.get w) (E : Ext tb ι s.get w ι' g' w' M) {m : Nat} {es : List (Value × Value)} (hg : s.get m = some (.map es)) (hm : m ∉ M) {ms : Array MapEntry} {ck : Nat} (hi : w.heap[(ι m).block]? = some (.map ms ck)) : w'.heap[(ι m).block]? = w.heap[(ι m).block]? :=
  E.frame _ (Array.getElem?_eq_some_iff.1 hi).1 fun i hM o ho hw e => G.apart i o m _ ho hg hw rfl (fun e' => hm (by rw [e']; exact hM)) e.symm
structure LI (tb : Tb) (N : Nat) (ι0 : Io) (s0 : St) (w0 : World) (r0 : Bool) (m n : Nat) (es : List (Value × Value)) (ck : Nat) (ms : Array MapEntry) (I : List (Value × Value) → AA → St → Prop) (rest : List (Value × Value)) (ι : Io) (a : AA) (s : St) (w : World) (ac : Act) : Prop where
  ok : s.Ok
  ev : Ev s0 s
  ext : Ext tb ι0 s0.get w0 ι s.get w s.mods
  aok : AOk ι s.get N a ac
  rnd : a.rnd = r0
  vis : ∃ vis seen, I vis a s ∧ (vis ++ rest).Perm es ∧ w.heap[(ι n).block]? = some (.mapIter (some (ι m).block) ck seen ck) ∧ (leftOf ms seen).toList.map kvE = rest.map (pairC ι)
  off : (ι n).off = 0
  new : w0.heap.size ≤ (ι n).block
  hm : w.heap[(ι m).block]? = some (.map ms ck)
theorem rangeLoop (TB : TbOk P tb) (HN : NatOk P tb) {r2 r3 bid b3 : Nat} {ops10 ops11 : Array Oper} {C : Code} {l10 l11 : List Oper} {o10 o11 : Oper} {ti tn te tc : Tmp}
    (h10 : ops10.toList = o10 :: l10) (ho10 : o10.op = .next (.tmp ti) false) (hd10 : o10.dst = some tn) (hg10 : o10.guard = none)
    (h11 : ops11.toList = o11 :: l11) (ho11 : o11.op = .entry (.tmp ti)) (hd11 : o11.dst = some te) (hg11 : o11.guard = none)
    {m n : Nat} {es : List (Value × Value)} {Q : AX → AA → St → Prop} (I : List (Value × Value) → AA → St → Prop)
    (hI : ∀ vis a s, I vis a s → s.get m = some (.map es) ∧ m ∉ s.mods ∧ tmA a.tm ti = .pointer (some ⟨n, 0, none⟩) ∧ hdom s.get n)
    (round : ∀ vis p rest a s, I vis a s → (vis ++ p :: rest).Perm es → WR tb ops10.toList l10 (a.put (some tn) (.tuple #[.bool true, p.1, p.2])) s (fun a2 s2 => tmA a2.tm tc = .bool true ∧ m ∉ s2.mods ∧ s2.get m = some (.map es) ∧ tmA a2.tm ti = .pointer (some ⟨n, 0, none⟩) ∧
      WR tb ops11.toList l11 (a2.put (some te) (.tuple #[p.1, p.2])) s2 (fun a3 s3 => MW P tb C a3 s3 (fun x a4 s4 => x = .normal ∧ I (vis ++ [p]) a4 s4))))
    (last : ∀ vis a s, I vis a s → vis.Perm es → WR tb ops10.toList l10 (a.put (some tn) (.tuple #[.bool false])) s (fun a2 s2 => tmA a2.tm tc = .bool false ∧ Q .normal a2 s2))
    {N : Nat} {F : Fence} {ι0 : Io} {s0 : St} {w0 : World} {r0 : Bool} {ck : Nat} {ms : Array MapEntry} (hbo : BornOk ms ck) (hF : FOk r0 F)
    (q10 : ∀ o ∈ ops10.toList, opOk tb N o = true) (q11 : ∀ o ∈ ops11.toList, opOk tb N o = true) (cC : codeOk tb N C = true) (cc : operandOk tb.gl (.tmp tc) = true) :
    ∀ (k : Nat) (rest : List (Value × Value)) (ι : Io) (a : AA) (s : St) (w : World) (ac : Act), rest.length = k → LI tb N ι0 s0 w0 r0 m n es ck ms I rest ι a s w ac →
      wpLoop F P (.seq (.region r2 ops10 false) (.seq (.cond (.tmp tc) .skip (.exit bid)) (.block b3 (.seq (.region r3 ops11 false) C)))) (Exit.inBlock bid (MQ tb N ι0 s0 w0 r0 Q)) ac w := by
  intro k
  induction k with
  | zero =>
    intro rest ι a s w ac hk L
    have hr : rest = [] := List.eq_nil_of_length_eq_zero hk
    subst hr
    obtain ⟨vis, seen, hIv, hp, hit, hleft⟩ := L.vis
    obtain ⟨hgm, hmm, hti, hdn⟩ := hI vis a s hIv
    have hl0 : (leftOf ms seen).size = 0 := by
      have := congrArg List.length hleft
      simpa using this
    have hex : (execOp ac.eval o10).run P w = .ok (.value (.tuple #[.bool false])) w := by
      have e : ac.eval (.tmp ti) = .pointer (some ⟨(ι n).block, 0, none⟩) := by rw [L.aok.tm.2 ti |> fun h => (show ac.eval (.tmp ti) = _ from h), hti]; simp [conc, addrC, L.off]
      rcases run_next_at (P := P) w o10.type (ι n).block (ι m).block ck ck seen ms ck hit L.hm (fun x hx => hbo.1 x hx) (Nat.le_refl _) with ⟨_, hrun⟩ | ⟨e', he', _⟩
      · simp only [execOp, ho10, Sem.run_bind, e, hrun, Result.andThen_ok, Sem.run_pure]
      · have : (leftOf ms seen).toList = [] := by simpa using hl0
        rw [this] at he'; cases he'
    obtain ⟨a2, s2, ⟨hb, hQ⟩, e2, f2, g2⟩ := reg_tail TB HN (ops := ops10.toList) (pre := [o10]) (by rw [h10]; rfl) (last vis a s hIv (by simpa using hp)) (k := 1) (cnt := l10.length) rfl rfl
    refine wpLoop.of (wpIn_seq (wpIn_regionL ?_))
    refine op_self (pre := []) (l2 := l10) (by rw [h10]; rfl) rfl (by rw [h10]; rfl) hg10 (fun c e => by rw [ho10] at e; cases e) hF hex ?_
    have A1 := L.aok.put (dst := o10.dst) (opOk_dst (q10 o10 (by rw [h10]; simp))) (v := .tuple #[.bool false]) (by simp [inD])
    rw [show conc ι (.tuple #[.bool false]) = .tuple #[.bool false] from by simp [conc], hd10] at A1
    rw [hd10]
    refine g2 N F ι w _ _ L.ok L.ext.good q10 (by rw [put_rnd, L.rnd]; exact hF) A1 fun ι3 ac3 w3 E3 A3 => ?_
    refine wpIn_seq (wpIn_cond_false ?_ (wpIn_exit ?_))
    · rw [(ev_ok E3.good A3.tm A3.tin cc).1]
      simp only [evO]
      rw [show tmA a2.tm tc = .bool false from hb]; simp [conc]
    have e2' := e2 L.ok
    change Exit.inBlock bid (MQ tb N ι0 s0 w0 r0 Q) (.exit bid) _ _
    simp only [Exit.inBlock, if_true]
    exact ⟨.normal, a2, s2, ι3, rfl, by rw [f2, put_rnd, L.rnd], L.ev.trans e2', L.ext.trans E3 e2'.mods, A3, hQ⟩
  | succ k ih =>
    intro rest ι a s w ac hk L
    obtain ⟨vis, seen, hIv, hp, hit, hleft⟩ := L.vis
    obtain ⟨hgm, hmm, hti, hdn⟩ := hI vis a s hIv
    have e : ac.eval (.tmp ti) = .pointer (some ⟨(ι n).block, 0, none⟩) := by rw [L.aok.tm.2 ti |> fun h => (show ac.eval (.tmp ti) = _ from h), hti]; simp [conc, addrC, L.off]
    rcases run_next_at (P := P) w o10.type (ι n).block (ι m).block ck ck seen ms ck hit L.hm (fun x hx => hbo.1 x hx) (Nat.le_refl _) with ⟨h0, _⟩ | ⟨ent, hent, w1, hw1, hrun⟩
    · exfalso
      have := congrArg List.length hleft
      simp at this
      omega
    · obtain ⟨L1, L2, hs⟩ := List.append_of_mem hent
      rw [hs, List.map_append, List.map_cons] at hleft
      obtain ⟨r1, r', rfl, hr1, hr'⟩ := List.map_eq_append_iff.1 hleft.symm
      obtain ⟨p, r2', rfl, hpe, hr2⟩ := List.map_eq_cons_iff.1 hr'
      have hpes : p ∈ es := hp.mem_iff.1 (by simp)
      have hsub : (leftOf ms seen).toList.Sublist ms.toList := by unfold leftOf; rw [Array.toList_filter]; exact List.filter_sublist
      have hent' : ent ∈ ms.toList := hsub.subset hent
      have hleft' : (leftOf ms (seen.push ent.born)).toList = L1 ++ L2 := by rw [left_push, filter_nodup ent _ L1 L2 hs ((hsub.map _).nodup hbo.2)]
      have hheap : w1.heap = w.heap := by rcases hw1 with rfl | rfl <;> rfl
      have E1 : Ext tb ι0 s0.get w0 ι s.get w1 s.mods := by
        rcases hw1 with rfl | rfl
        · exact L.ext
        · exact L.ext.trans (Ext.drew L.ext.good s.mods) (fun _ h => h)
      have hib : (ι n).block < w.heap.size := (Array.getElem?_eq_some_iff.1 hit).1
      have hnb : (ι m).block ≠ (ι n).block := fun e' => by have := L.hm; rw [e', hit] at this; cases this
      obtain ⟨w', hw'⟩ : ∃ w', w' = setBlock w1 (ι n).block (.mapIter (some (ι m).block) ck (seen.push ent.born) ck) := ⟨_, rfl⟩
      rw [← hw'] at hrun
      have hoth : ∀ b, b ≠ (ι n).block → w'.heap[b]? = w1.heap[b]? := fun b hb => by
        rw [hw']; show (w1.heap.setIfInBounds _ _)[b]? = _
        rw [Array.getElem?_setIfInBounds_ne (by omega)]
      have hit' : w'.heap[(ι n).block]? = some (.mapIter (some (ι m).block) ck (seen.push ent.born) ck) := by
        rw [hw']; show (w1.heap.setIfInBounds _ _)[(ι n).block]? = _
        rw [Array.getElem?_setIfInBounds_self_of_lt (by rw [hheap]; exact hib)]
      have hm' : w'.heap[(ι m).block]? = some (.map ms ck) := by rw [hoth _ hnb, hheap, L.hm]
      have E2 : Ext tb ι0 s0.get w0 ι s.get w' s.mods := E1.poke (ι n).block L.new (fun i o hg hso e' => (L.ext.good.obj i o hg).not_iter hso (by rw [e']; exact hit)) hoth (by rw [hw']; rfl) (by rw [hw']; rfl) (by rw [hw']; rfl) (by rw [hw']; show (w1.heap.setIfInBounds _ _).size = _; simp)
      have hex : (execOp ac.eval o10).run P w = .ok (.value (.tuple #[.bool true, ent.key, ent.val])) w' := by
        simp only [execOp, ho10, Sem.run_bind, e, hrun, Result.andThen_ok, Sem.run_pure]
      have hkv : conc ι p.1 = ent.key ∧ conc ι p.2 = ent.val := by
        have : pairC ι p = kvE ent := hpe
        unfold pairC kvE at this
        exact ⟨congrArg Prod.fst this, congrArg Prod.snd this⟩
      have hcl := L.ext.good.closed _ _ hgm p hpes
      have A1 := L.aok.put (dst := o10.dst) (opOk_dst (q10 o10 (by rw [h10]; simp))) (v := .tuple #[.bool true, p.1, p.2]) (by
        simp only [inD]
        intro v hv
        simp at hv
        rcases hv with rfl | rfl | rfl
        · simp [inD]
        · exact hcl.1
        · exact hcl.2)
      rw [show conc ι (.tuple #[.bool true, p.1, p.2]) = .tuple #[.bool true, ent.key, ent.val] from by simp [conc, hkv.1, hkv.2], hd10] at A1
      obtain ⟨a2, s2, ⟨hb, hm2, hg2, ht2, hW11⟩, e2, f2, g2⟩ := reg_tail TB HN (ops := ops10.toList) (pre := [o10]) (by rw [h10]; rfl) (round vis p (r1 ++ r2') a s hIv (((List.perm_middle (a := p) (l₁ := r1) (l₂ := r2')).symm.append_left vis).trans hp)) (k := 1) (cnt := l10.length) rfl rfl
      refine wpLoop.of (wpIn_seq (wpIn_regionL ?_))
      refine op_self (pre := []) (l2 := l10) (by rw [h10]; rfl) rfl (by rw [h10]; rfl) hg10 (fun c e => by rw [ho10] at e; cases e) hF hex ?_
      rw [hd10]
      refine g2 N F ι w' _ _ L.ok E2.good q10 (by rw [put_rnd, L.rnd]; exact hF) A1 fun ι3 ac3 w3 E3 A3 => ?_
      have ev2 := e2 L.ok
      have ok2 := ev2.ok L.ok
      have hn3 : ι3 n = ι n := E3.agree n hdn
      have hm3 : ι3 m = ι m := E3.agree m (hdom_of hgm)
      refine wpIn_seq (wpIn_cond_true ?_ (wpIn_skip ?_))
      · rw [(ev_ok E3.good A3.tm A3.tin cc).1]
        simp only [evO]
        rw [show tmA a2.tm tc = .bool true from hb]; simp [conc]
      change (Code.block b3 _).wpIn F 0 P _ _ _
      refine wpIn_block (wpIn_seq (wpIn_regionL ?_))
      have hit3 : w3.heap[(ι n).block]? = some (.mapIter (some (ι m).block) ck (seen.push ent.born) ck) := by rw [E3.keeps E2.good hit', hit']
      have hm33 : w3.heap[(ι m).block]? = some (.map ms ck) := by rw [E3.keepm E2.good hgm hm2 hm', hm']
      have e3' : ac3.eval (.tmp ti) = .pointer (some ⟨(ι n).block, 0, none⟩) := by rw [(show ac3.eval (.tmp ti) = _ from A3.tm.2 ti), ht2]; simp [conc, addrC, hn3, L.off]
      have hex3 : (execOp ac3.eval o11).run P w3 = .ok (.value (.tuple #[ent.key, ent.val])) w3 := by
        have := run_entry_at (P := P) w3 (ι n).block (ι m).block ck seen ms ck ent hit3 hm33 hent' hbo.2
        simp only [execOp, ho11, Sem.run_bind, e3', this, Result.andThen_ok, Sem.run_pure]
      refine op_self (pre := []) (l2 := l11) (by rw [h11]; rfl) rfl (by rw [h11]; rfl) hg11 (fun c e => by rw [ho11] at e; cases e) hF hex3 ?_
      have hcl3 := E3.good.closed _ _ hg2 p hpes
      have hag3 : ∀ i r, roomy ι s.get i r → ι3 i = ι i := fun i r h => E3.agree i h.1
      have A4 := A3.put (dst := o11.dst) (opOk_dst (q11 o11 (by rw [h11]; simp))) (v := .tuple #[p.1, p.2]) (by
        simp only [inD]
        intro v hv
        simp at hv
        rcases hv with rfl | rfl
        · exact hcl3.1
        · exact hcl3.2)
      rw [show conc ι3 (.tuple #[p.1, p.2]) = .tuple #[ent.key, ent.val] from by simp [conc, conc_congr hag3 _ hcl.1, conc_congr hag3 _ hcl.2, hkv.1, hkv.2], hd11] at A4
      rw [hd11]
      obtain ⟨a3, s3, hC, e3, f3, g3⟩ := reg_tail TB HN (ops := ops11.toList) (pre := [o11]) (by rw [h11]; rfl) hW11 (k := 1) (cnt := l11.length) rfl rfl
      have hrn2 : a2.rnd = r0 := by rw [f2, put_rnd, L.rnd]
      refine g3 N F ι3 w3 _ _ ok2 E3.good q11 (by rw [put_rnd, hrn2]; exact hF) A4 fun ι5 ac5 w5 E5 A5 => ?_
      have ev3 := e3 ok2
      have hr3 : a3.rnd = r0 := by rw [f3, put_rnd, hrn2]
      refine wpIn_mono (hC N F ι5 w5 ac5 (ev3.ok ok2) E5.good cC (by rw [hr3]; exact hF) A5) fun ex c6 w6 ⟨x, a4, s4, ι6, hx, hr4, ev4, E6, A6, hxn, hI4⟩ => ?_
      subst hxn
      subst hx
      have hE35 : Ext tb ι s.get w' ι5 s3.get w5 s3.mods := E3.trans E5 ev3.mods
      have hE : Ext tb ι s.get w' ι6 s4.get w6 s4.mods := hE35.trans E6 ev4.mods
      obtain ⟨hgm4, hmm4, hti4, hdn4⟩ := hI _ _ _ hI4
      have hn6 : ι6 n = ι n := hE.agree n hdn
      have hm6 : ι6 m = ι m := hE.agree m (hdom_of hgm)
      have hev : Ev s s4 := (ev2.trans ev3).trans ev4
      change wpLoop F P _ _ c6 w6
      refine ih (r1 ++ r2') ι6 a4 s4 w6 c6 (by simp at hk ⊢; omega) ⟨ev4.ok (ev3.ok ok2), L.ev.trans hev, E2.trans hE hev.mods, A6, by rw [hr4, hr3], ⟨vis ++ [p], seen.push ent.born, hI4, ?_, ?_, ?_⟩, by rw [hn6, L.off], by rw [hn6]; exact L.new, ?_⟩
      · rw [List.append_assoc]
        exact ((List.perm_middle (a := p) (l₁ := r1) (l₂ := r2')).symm.append_left vis).trans hp
      · rw [hn6, hm6, hE.keeps E2.good hit', hit']
      · rw [hleft', List.map_append, ← hr1, ← hr2, ← List.map_append]
        refine List.map_congr_left fun q hq => ?_
        have hq' : q ∈ es := hp.mem_iff.1 (by
          rcases List.mem_append.1 hq with h | h
          · simp [h]
          · simp [h])
        have hclq := L.ext.good.closed _ _ hgm q hq'
        have hag : ∀ i r, roomy ι s.get i r → ι6 i = ι i := fun i r h => hE.agree i h.1
        unfold pairC
        rw [conc_congr hag _ hclq.1, conc_congr hag _ hclq.2]
      · rw [hm6, hE.keepm E2.good hgm hmm4 hm', hm']
theorem MW.rangeMap (TB : TbOk P tb) (HN : NatOk P tb) {r1 r2 r3 bid b3 : Nat} {ops9 ops10 ops11 : Array Oper} {C : Code} {pre9 l10 l11 : List Oper} {o9 o10 o11 : Oper} {ti tn te tc tmap : Tmp} {ty kt et : TypeId}
    (h9 : ops9.toList = pre9 ++ [o9]) (ho9 : o9.op = .range ty (.tmp tmap)) (hd9 : o9.dst = some ti) (hg9 : o9.guard = none) (hty : P.underlying ty = some (.map kt et))
    (h10 : ops10.toList = o10 :: l10) (ho10 : o10.op = .next (.tmp ti) false) (hd10 : o10.dst = some tn) (hg10 : o10.guard = none)
    (h11 : ops11.toList = o11 :: l11) (ho11 : o11.op = .entry (.tmp ti)) (hd11 : o11.dst = some te) (hg11 : o11.guard = none)
    {m n : Nat} {es : List (Value × Value)} {a : AA} {s : St} {Q : AX → AA → St → Prop} (I : List (Value × Value) → AA → St → Prop)
    (start : WR tb ops9.toList pre9 a s (fun a1 s1 => s1.next = n ∧ s1.get m = some (.map es) ∧ tmA a1.tm tmap = .map (some m) ∧ I [] (a1.put (some ti) (.pointer (some ⟨n, 0, none⟩))) (s1.alloc .dead)))
    (hI : ∀ vis a s, I vis a s → s.get m = some (.map es) ∧ m ∉ s.mods ∧ tmA a.tm ti = .pointer (some ⟨n, 0, none⟩) ∧ hdom s.get n)
    (round : ∀ vis p rest a s, I vis a s → (vis ++ p :: rest).Perm es → WR tb ops10.toList l10 (a.put (some tn) (.tuple #[.bool true, p.1, p.2])) s (fun a2 s2 => tmA a2.tm tc = .bool true ∧ m ∉ s2.mods ∧ s2.get m = some (.map es) ∧ tmA a2.tm ti = .pointer (some ⟨n, 0, none⟩) ∧
      WR tb ops11.toList l11 (a2.put (some te) (.tuple #[p.1, p.2])) s2 (fun a3 s3 => MW P tb C a3 s3 (fun x a4 s4 => x = .normal ∧ I (vis ++ [p]) a4 s4))))
    (last : ∀ vis a s, I vis a s → vis.Perm es → WR tb ops10.toList l10 (a.put (some tn) (.tuple #[.bool false])) s (fun a2 s2 => tmA a2.tm tc = .bool false ∧ Q .normal a2 s2)) :
    MW P tb (.seq (.region r1 ops9 false) (.block bid (.loop (.seq (.region r2 ops10 false) (.seq (.cond (.tmp tc) .skip (.exit bid)) (.block b3 (.seq (.region r3 ops11 false) C))))))) a s Q := by
  intro N F ι0 w0 ac0 hok0 G0 hc hF hA0
  have hc' : (((allB (fun o => dstB N o.dst && allB (operandOk tb.gl) o.op.operands.toList) ops9.toList && true) && ((allB (fun o => dstB N o.dst && allB (operandOk tb.gl) o.op.operands.toList) ops10.toList && true) &&
    ((operandOk tb.gl (.tmp tc) && (codeOk tb N .skip && codeOk tb N (.exit bid))) && ((allB (fun o => dstB N o.dst && allB (operandOk tb.gl) o.op.operands.toList) ops11.toList && true) && codeOk tb N C))))) = true := hc
  simp only [Bool.and_eq_true] at hc'
  obtain ⟨⟨c9, _⟩, ⟨c10, _⟩, ⟨cc, _⟩, ⟨c11, _⟩, cC⟩ := hc'
  have q9 : ∀ o ∈ ops9.toList, opOk tb N o = true := fun o ho => allB_spec c9 o ho
  have q10 : ∀ o ∈ ops10.toList, opOk tb N o = true := fun o ho => allB_spec c10 o ho
  have q11 : ∀ o ∈ ops11.toList, opOk tb N o = true := fun o ho => allB_spec c11 o ho
  have kt : ∀ {ι g aa cc t}, AOk ι g N aa cc → cc.eval (.tmp t) = conc ι (tmA aa.tm t) := fun {ι g aa cc t} h => h.tm.2 t
  obtain ⟨a1, s1, ⟨hn1, hm1, ht1, hI1⟩, e1, f1, g1⟩ := reg_head TB HN h9 start
  refine wpIn_seq (wpIn_regionL (g1 N F ι0 w0 ac0 _ hok0 G0 q9 hF hA0 fun ι1 ac1 w1 E1 A1 => ?_))
  have ev1 := e1 hok0
  have ok1 := ev1.ok hok0
  obtain ⟨ko, ms, ck, hh, hperm, hbo⟩ := E1.good.obj _ _ hm1
  have hiter : (execOp ac1.eval o9).run P w1 = .ok (.value (.pointer (some ⟨w1.heap.size, 0, none⟩))) (w1.alloc (.mapIter (some (ι1 m).block) ck #[] ck)) := by
    have := run_range_map (P := P) w1 ty _ _ (ι1 m).block ms ck hty hh
    have e : ac1.eval (.tmp tmap) = .map (some (ι1 m).block) := by rw [kt A1, ht1]; simp [conc]
    simp only [execOp, ho9, Sem.run_bind, e, this, Result.andThen_ok, Sem.run_pure]
  refine op_self h9 rfl rfl hg9 (fun c e => by rw [ho9] at e; cases e) hF hiter ?_
  have hf1 : s1.get n = none := by rw [← hn1]; exact ok1.fresh
  have E2 : Ext tb ι1 s1.get w1 (upI ι1 n ⟨w1.heap.size, 0, 0⟩) (hset s1.get n .dead) (w1.alloc (.mapIter (some (ι1 m).block) ck #[] ck)) s1.mods :=
    Ext.alloc E1.good hf1 .dead _ _ _ trivial rfl rfl rfl (by show w1.heap.size ≤ (w1.heap.push _).size; simp) (fun b hb => by
      show (w1.heap.push _)[b]? = w1.heap[b]?
      rw [Array.getElem?_push, if_neg (by omega)]) (.inr rfl) trivial
  rw [← hn1, ← St.get_alloc, hn1] at E2
  have ev2 : Ev s1 (s1.alloc .dead) := Ev.alloc _ ok1.fresh
  have A2 := (A1.ext E2).put (opOk_dst (q9 o9 (by rw [h9]; simp))) (v := .pointer (some ⟨n, 0, none⟩)) (by
    simp only [inD, roomy]
    refine ⟨?_, Nat.zero_le _⟩
    unfold hdom
    rw [← hn1, St.get_alloc_self]; simp)
  have hpv : conc (upI ι1 n ⟨w1.heap.size, 0, 0⟩) (.pointer (some ⟨n, 0, none⟩)) = .pointer (some ⟨w1.heap.size, 0, none⟩) := by simp [conc, addrC, upI_self]
  rw [hpv] at A2
  obtain ⟨es', hes', hmap'⟩ := perm_lift (pairC ι1) es _ hperm
  have hcl1 := E1.good.closed _ _ hm1
  have hne : m ≠ n := fun e => by rw [e, hf1] at hm1; cases hm1
  have hL : LI tb N ι0 s w0 a.rnd m n es ck ms I es' (upI ι1 n ⟨w1.heap.size, 0, 0⟩) (a1.put o9.dst (.pointer (some ⟨n, 0, none⟩))) (s1.alloc .dead) (w1.alloc (.mapIter (some (ι1 m).block) ck #[] ck)) (ac1.put o9.dst (.pointer (some ⟨w1.heap.size, 0, none⟩))) := by
    refine ⟨ev2.ok ok1, ev1.trans ev2, E1.trans E2 (fun _ h => h), A2, by rw [put_rnd, f1], ⟨[], #[], by rw [hd9]; exact hI1, by simpa using hes', ?_, ?_⟩, by rw [upI_self], by rw [upI_self]; exact E1.size, ?_⟩
    · rw [upI_self, upI_ne _ _ _ hne]
      exact heap_alloc_new _ _
    · have : (leftOf ms #[]).toList = ms.toList := by unfold leftOf; simp
      rw [this, show ms.toList.map kvE = es'.map (pairC ι1) from hmap'.symm]
      refine List.map_congr_left fun p hp => ?_
      have hp' := hcl1 p (hes'.mem_iff.1 hp)
      unfold pairC
      rw [upI_conc hf1 _ hp'.1, upI_conc hf1 _ hp'.2]
    · rw [upI_ne _ _ _ hne, heap_alloc_old _ _ (Array.getElem?_eq_some_iff.1 hh).1, hh]
  change (Code.block bid _).wpIn F 0 P _ _ _
  refine wpIn_block (wpLoop.wpIn ?_)
  exact rangeLoop TB HN h10 ho10 hd10 hg10 h11 ho11 hd11 hg11 I hI round last hbo hF q10 q11 cC cc es'.length es' _ _ _ _ _ rfl hL
end Go.Proofs.Ae
namespace Go.Proofs.Ae
open Go.Proofs
noncomputable def crash_0 : Array Oper := opsAt Tryz.f16 [0]
noncomputable def crash_1 : Array Oper := opsAt Tryz.f16 [1, 0, 0]
noncomputable def crash_2 : Array Oper := opsAt Tryz.f16 [1, 0, 1, 0, 0, 0]
noncomputable def crash_3 : Array Oper := opsAt Tryz.f16 [1, 0, 1, 0, 0, 1, 1, 0, 0, 0]
noncomputable def crash_4 : Array Oper := opsAt Tryz.f16 [1, 0, 1, 0, 0, 1, 1, 0, 0, 1, 0]
noncomputable def crash_5 : Array Oper := opsAt Tryz.f16 [1, 0, 1, 0, 0, 1, 1, 0, 0, 1, 1, 0]
noncomputable def crash_6 : Array Oper := opsAt Tryz.f16 [1, 0, 1, 0, 0, 1, 1, 1]
noncomputable def crash_7 : Array Oper := opsAt Tryz.f16 [1, 1, 0]
noncomputable def crash_8 : Array Oper := opsAt Tryz.f16 [1, 1, 1, 0]
noncomputable def crash_9 : Array Oper := opsAt Tryz.f16 [1, 1, 1, 1, 0, 0]
noncomputable def crash_10 : Array Oper := opsAt Tryz.f16 [1, 1, 1, 1, 0, 1, 0, 0, 0]
noncomputable def crash_11 : Array Oper := opsAt Tryz.f16 [1, 1, 1, 1, 0, 1, 0, 0, 1, 1, 0, 0]
noncomputable def crash_12 : Array Oper := opsAt Tryz.f16 [1, 1, 1, 1, 0, 1, 0, 0, 1, 1, 0, 1]
noncomputable def crash_13 : Array Oper := opsAt Tryz.f16 [1, 1, 1, 1, 1]
theorem crash_body : Tryz.f16.body = some (.seq (.region 0 crash_0 false) (.seq (.seq (.region 1 crash_1 false) (.block 0 (.loop (.seq (.region 2 crash_2 false) (.seq (.cond (.tmp 19) .skip (.exit 0)) (.seq (.block 1 (.seq (.region 3 crash_3 false) (.seq (.region 4 crash_4 false) (.cond (.tmp 32) (.region 5 crash_5 true) .skip)))) (.region 6 crash_6 false))))))) (.seq (.region 7 crash_7 false) (.seq (.region 8 crash_8 false) (.seq (.seq (.region 9 crash_9 false) (.block 2 (.loop (.seq (.region 10 crash_10 false) (.seq (.cond (.tmp 55) .skip (.exit 2)) (.block 3 (.seq (.region 11 crash_11 false) (.region 12 crash_12 false)))))))) (.region 13 crash_13 false)))))) := by kernel_rfl
set_option maxHeartbeats 4000000
variable {P : Program} {tb : Tb}
theorem Good.permMap {ι : Io} {s : St} {w : World} (G : Good tb ι s.get w) {id m1 : Nat} {vis es : List (Value × Value)} (h1 : s.get id = some (.map vis)) (h2 : s.get m1 = some (.map es)) (hp : vis.Perm es) : Good tb ι (s.upd id (.map es)).get w := by
  have hd : ∀ i, hdom s.get i → hdom (s.upd id (.map es)).get i := fun i hi => by rw [St.get_upd]; exact hdom_hset hi
  rw [St.get_upd] at hd ⊢
  refine ⟨fun i o h => ?_, fun i o j o' h h' hw hs hne => ?_, fun i o h => ?_, fun i hi => ⟨hd i (G.glob i hi).1, (G.glob i hi).2⟩⟩
  · by_cases e : i = id
    · subst e
      rw [hset_self] at h; cases h
      obtain ⟨k1, ms, ck, k2, k3, k4⟩ := G.obj _ _ h1
      exact ⟨(G.obj _ _ h2).1, ms, ck, k2, k3.trans (hp.map _), k4⟩
    · rw [hset_ne _ _ _ _ e] at h
      exact G.obj i o h
  · have a1 : ∃ o1, s.get i = some o1 ∧ o1.writable = true := by
      by_cases e : i = id
      · subst e; exact ⟨_, h1, rfl⟩
      · rw [hset_ne _ _ _ _ e] at h; exact ⟨o, h, hw⟩
    have a2 : ∃ o1, s.get j = some o1 ∧ o1.solid = true := by
      by_cases e : j = id
      · subst e; exact ⟨_, h1, rfl⟩
      · rw [hset_ne _ _ _ _ e] at h'; exact ⟨o', h', hs⟩
    obtain ⟨o1, b1, b2⟩ := a1
    obtain ⟨o2, c1, c2⟩ := a2
    exact G.apart i o1 j o2 b1 c1 b2 c2 hne
  · by_cases e : i = id
    · subst e
      rw [hset_self] at h; cases h
      exact AObj.inD_mono (fun i r k => ⟨hd i k.1, k.2⟩) (G.closed _ _ h2)
    · rw [hset_ne _ _ _ _ e] at h
      exact AObj.inD_mono (fun i r k => ⟨hd i k.1, k.2⟩) (G.closed i o h)
theorem MW.permMap {c : Code} {a : AA} {s : St} {Q : AX → AA → St → Prop} {id m1 : Nat} {vis es : List (Value × Value)} (h1 : s.get id = some (.map vis)) (h2 : s.get m1 = some (.map es)) (hp : vis.Perm es) (h : MW P tb c a (s.upd id (.map es)) Q) : MW P tb c a s Q := by
  intro N F ι w ac hok G hc hF hA
  have hev : Ev s (s.upd id (.map es)) := Ev.upd _ h1
  have hd : ∀ i, hdom s.get i ↔ hdom (s.upd id (.map es)).get i := fun i => ⟨hev.dom i, fun hi => by
    by_cases e : i = id
    · subst e; exact hdom_of h1
    · unfold hdom at hi ⊢; rwa [St.get_upd_ne _ _ _ _ e] at hi⟩
  have hA' : AOk ι (s.upd id (.map es)).get N a ac := ⟨hA.tm, hA.tin.mono (fun i r k => ⟨(hd i).1 k.1, k.2⟩), hA.df, fun d hdd => dfIn_mono (fun i r k => ⟨(hd i).1 k.1, k.2⟩) (hA.din d hdd)⟩
  refine wpIn_mono (h N F ι w ac (hev.ok hok) (G.permMap h1 h2 hp) hc hF hA') fun e c' w' ⟨x, a', s', ι', k1, k2, k3, k4, k5, k6⟩ => ⟨x, a', s', ι', k1, k2, hev.trans k3, ?_, k5, k6⟩
  refine ⟨k4.good, fun i hi => k4.agree i ((hd i).1 hi), fun i hi => k4.dom i ((hd i).1 hi), fun i o hg hw => ?_, k4.size, k4.os, k4.tape, k4.output, fun b hb hM => k4.frame b hb fun i hi o ho hw => ?_, fun i o hn hg hs => ?_⟩
  · have e : i ≠ id := fun e => by rw [e, h1] at hg; cases hg; cases hw
    exact k4.stay i o (by rw [St.get_upd_ne _ _ _ _ e]; exact hg) hw
  · by_cases e : i = id
    · subst e; exact hM i hi _ h1 rfl
    · rw [St.get_upd_ne _ _ _ _ e] at ho; exact hM i hi o ho hw
  · rcases k4.fresh i o (fun hh => hn ((hd i).2 hh)) hg hs with hb | ⟨B, oB, hB, hgB, hwB, hbB⟩
    · exact .inl hb
    · refine .inr ?_
      by_cases e : B = id
      · subst e; exact ⟨B, _, hB, h1, rfl, hbB⟩
      · rw [St.get_upd_ne _ _ _ _ e] at hgB; exact ⟨B, oB, hB, hgB, hwB, hbB⟩
theorem MW.seqW (TB : TbOk P tb) (HN : NatOk P tb) {y z : Code} {a : AA} {s : St} {Q : AX → AA → St → Prop} (h : W tb y a s (thenW (fun a1 s1 => MW P tb z a1 s1 Q) Q)) : MW P tb (.seq y z) a s Q := MW.seq (MW.of TB HN h)
def tyOne (t : TypeId) : Prop := (tyT.get t).map (fun ti => (isOther ti.d, isAggT ti.d, ti.size)) = some (false, false, 1)
theorem tyOne.get {t : TypeId} (h : tyOne t) : ∃ ti, tyT.get t = some ti ∧ isOther ti.d = false ∧ isAggT ti.d = false ∧ ti.size = 1 := by
  unfold tyOne at h
  cases hg : tyT.get t with
  | none => rw [hg] at h; cases h
  | some ti =>
    rw [hg] at h
    simp only [Option.map_some, Option.some.injEq, Prod.mk.injEq] at h
    exact ⟨ti, rfl, h⟩
theorem ldT {t : TypeId} (ht : tyOne t) (s : St) (b o : Nat) (v : Value) (h : cell1 o (s.get b) = some v) : loadA s (.pointer (some ⟨b, o, none⟩)) (tyT.get t) = some (.val v, s) := by
  obtain ⟨ti5, t5, d5, z5, _⟩ := ht.get
  rw [t5, load_one _ _ _ _ d5 z5, h]; rfl
theorem stT {t : TypeId} (ht : tyOne t) (s : St) (b o : Nat) (c : List Value) (v : Value) (hv : oneV v = true) (h : s.get b = some (.cells c .exact)) (ho : o < c.length) : storeA s (.pointer (some ⟨b, o, none⟩)) v (tyT.get t) = some (.skip, s.upd b (.cells (c.set o v) .exact)) := by
  obtain ⟨ti5, t5, _, _, z5⟩ := ht.get
  rw [t5, store_one _ _ _ _ _ _ _ z5 hv h (by simp) ho]
def fldIs (T f off : Nat) : Prop := (match tyT.get T with
  | some ti => match ti.d with
    | .struct fs => match fs[f]? with
      | some (t, o) => match tyT.get t with
        | some tf => Nat.beq tf.size 0 = false ∧ o = off
        | none => False
      | none => False
    | _ => False
  | none => False)
theorem faT {T f off : Nat} (h : fldIs T f off) (s : St) (b : Nat) : fieldAddrA tyT s (.pointer (some ⟨b, 0, none⟩)) f (tyT.get T) = some (.val (.pointer (some ⟨b, off, none⟩)), s) := by
  unfold fldIs at h
  split at h
  · rename_i ti hti
    split at h
    · rename_i fs hfs
      split at h
      · rename_i t o ho
        split at h
        · rename_i tf htf
          obtain ⟨h1, rfl⟩ := h
          simp only [hti, fieldAddrA, hfs, fieldAt, ho, htf, h1, cond_false, addA_none, Nat.zero_add]
        · exact h.elim
      · exact h.elim
    · exact h.elim
  · exact h.elim
theorem f63_0 : fldIs 63 0 0 := ⟨by kernel_rfl, by kernel_rfl⟩
theorem f61_1 : fldIs 61 1 1 := ⟨by kernel_rfl, by kernel_rfl⟩
theorem f61_2 : fldIs 61 2 2 := ⟨by kernel_rfl, by kernel_rfl⟩
theorem f61_3 : fldIs 61 3 3 := ⟨by kernel_rfl, by kernel_rfl⟩
theorem f61_4 : fldIs 61 4 4 := ⟨by kernel_rfl, by kernel_rfl⟩
theorem f61_7 : fldIs 61 7 7 := ⟨by kernel_rfl, by kernel_rfl⟩
theorem one57 : tyOne 57 := by unfold tyOne; kernel_rfl
theorem one58 : tyOne 58 := by unfold tyOne; kernel_rfl
theorem one59 : tyOne 59 := by unfold tyOne; kernel_rfl
theorem one4 : tyOne 4 := by unfold tyOne; kernel_rfl
def keysI (es : List (Value × Value)) : Prop := (∀ p ∈ es, ∃ n, p.1 = .int .i64 n) ∧ (es.map Prod.fst).Nodup
theorem eqI_false {a b : Int} (h : a ≠ b) : eqI a b = false := by
  rw [eqI_eq]; simpa using h
theorem setA_new (k v : Value) : ∀ (es : List (Value × Value)), (∀ p ∈ es, keyEq k p.1 = some false) → setA k v es = some (es ++ [(k, v)])
  | [], _ => rfl
  | e :: l, h => by
    have h1 := h e (by simp)
    have h2 := setA_new k v l (fun p hp => h p (by simp [hp]))
    change (match keyEq k e.1 with | some true => _ | some false => (match setA k v l with | some r => some (e :: r) | none => none) | none => none) = _
    rw [h1, h2]; rfl
theorem keysI.new {vis rest : List (Value × Value)} {p : Value × Value} {es : List (Value × Value)} (h : keysI es) (hp : (vis ++ p :: rest).Perm es) : (∃ n, p.1 = .int .i64 n) ∧ ∀ q ∈ vis, keyEq p.1 q.1 = some false := by
  have hp1 : p ∈ es := hp.mem_iff.1 (by simp)
  obtain ⟨n, hn⟩ := h.1 p hp1
  refine ⟨⟨n, hn⟩, fun q hq => ?_⟩
  obtain ⟨k, hk⟩ := h.1 q (hp.mem_iff.1 (by simp [hq]))
  have hnd : ((vis ++ p :: rest).map Prod.fst).Nodup := (hp.map Prod.fst).nodup_iff.2 h.2
  rw [List.map_append, List.nodup_append] at hnd
  have hne := hnd.2.2 q.1 (List.mem_map.2 ⟨q, hq, rfl⟩) p.1 (by simp)
  rw [hn, hk] at hne ⊢
  have : n ≠ k := fun e => hne (by rw [e])
  simp only [keyEq, decide_true, cond_true, eqI_false this]
theorem W.loopOut {tb : Tb} {y : Code} {a : AA} {s : St} {Q : AX → AA → St → Prop} (h : W tb y a s (thenW (fun _ _ => False) Q)) : W tb (.loop y) a s Q :=
  W.loop (fun k a' s' => a' = a ∧ s' = s) (fun k a' s' ⟨h1, h2⟩ => by
    subst h1; subst h2
    refine h.mono fun x a1 s1 hx => ?_
    cases x with
    | normal => exact hx.elim
    | exit id => exact hx
    | ret => exact hx) 0 a s ⟨rfl, rfl⟩
structure CrS (s0 s : St) (b n1 : Nat) (c : List Value) (vis : List (Value × Value)) : Prop where
  gb : s.get b = some (.cells c .exact)
  gn : s.get n1 = some (.map vis)
  gd : s.get (n1 + 1) = some .dead
  old : ∀ i, i ≠ b → i ≠ n1 → i ≠ n1 + 1 → s.get i = s0.get i
  mods : ∀ i ∈ s.mods, i = b ∨ i = n1
theorem CrS.updn {s0 s : St} {b n1 : Nat} {c : List Value} {vis vis' : List (Value × Value)} (h : CrS s0 s b n1 c vis) (hb : b ≠ n1) : CrS s0 (s.upd n1 (.map vis')) b n1 c vis' :=
  ⟨by rw [St.get_upd_ne _ _ _ _ hb, h.gb], St.get_upd_self _ _ _, by rw [St.get_upd_ne _ _ _ _ (by omega), h.gd], fun i h1 h2 h3 => by rw [St.get_upd_ne _ _ _ _ h2, h.old i h1 h2 h3], fun i hi => by
    rcases List.mem_cons.1 hi with rfl | hi
    · exact .inr rfl
    · exact h.mods i hi⟩
theorem CrS.updb {s0 s : St} {b n1 : Nat} {c c' : List Value} {vis : List (Value × Value)} (h : CrS s0 s b n1 c vis) (hb : b ≠ n1) (hb' : b ≠ n1 + 1) : CrS s0 (s.upd b (.cells c' .exact)) b n1 c' vis :=
  ⟨St.get_upd_self _ _ _, by rw [St.get_upd_ne _ _ _ _ hb.symm, h.gn], by rw [St.get_upd_ne _ _ _ _ hb'.symm, h.gd], fun i h1 h2 h3 => by rw [St.get_upd_ne _ _ _ _ h1, h.old i h1 h2 h3], fun i hi => by
    rcases List.mem_cons.1 hi with rfl | hi
    · exact .inl rfl
    · exact h.mods i hi⟩
def CrI (s0 : St) (b n1 : Nat) (c : List Value) (vis : List (Value × Value)) (a : AA) (s : St) : Prop := ∃ tm, a = ⟨tm, [], false, 16⟩ ∧ tmA tm 4 = .pointer (some ⟨b, 0, none⟩) ∧ tmA tm 53 = .pointer (some ⟨n1 + 1, 0, none⟩) ∧ CrS s0 s b n1 c vis
def crashC (many : Value) (m now : Nat) (acts dn : Value) : List Value := [many, .map (some m), .map (some now), .slice none 0 0, .bool false, acts, dn, .bool false]
theorem und58 : Tryz.prog.underlying 58 = some (.map 3 47) := by kernel_rfl
theorem key3 (n : Int) : keyT tyT 3 (.int .i64 n) = true := by
  obtain ⟨ti, h, hd, _⟩ := ty3
  unfold keyT
  rw [h]
  simp only [hd]
  rfl
theorem upd58 (s : St) (r : Nat) (k v : Value) (n : Int) (vis : List (Value × Value)) (hk : k = .int .i64 n) (hg : s.get r = some (.map vis)) (hn : ∀ q ∈ vis, keyEq k q.1 = some false) : mapUpdA tyT s (.map (some r)) k v (tyT.get 58) = some (.skip, s.upd r (.map (vis ++ [(k, v)]))) := by
  have ht : ∃ ti, tyT.get 58 = some ti ∧ ti.d = .map 3 47 ∧ ti.size = 1 := tyR (by kernel_rfl)
  obtain ⟨ti, h, hd, _⟩ := ht
  rw [h]
  unfold mapUpdA
  simp only [hd]
  rw [hk, key3, ← hk, cond_true, hg]
  unfold updObj
  simp only
  rw [setA_new k v vis hn]
theorem crash_C (s : St) (h b m : Nat) (hm0 : Mode) (many now armed acts dn down : Value) (es : List (Value × Value)) (hh : s.get h = some (.cells [.pointer (some ⟨b, 0, none⟩)] hm0)) (hb : s.get b = some (.cells [many, .map (some m), now, .slice none 0 0, armed, acts, dn, down] .exact)) (hm : s.get m = some (.map es)) (hk : keysI es) (hok : s.Ok) :
    CSem Tryz.prog tbH3 16 [.pointer (some ⟨h, 0, none⟩), .slice none 0 0] s unitV (((s.alloc (.map es)).alloc .dead).upd b (.cells (crashC many m s.next acts dn) .exact)) := by
  have lb : b < s.next := hok _ (hdom_of hb)
  have lm : m < s.next := hok _ (hdom_of hm)
  have hbm : m ≠ b := fun e => by rw [e, hb] at hm; cases hm
  refine CSem.ofMW tbH3_ok (by kernel_rfl) crash_body (Nat.le_of_ble_eq_true rfl) (fun _ => ?_) ?_
  · have h1 : Ev s (s.alloc (.map es)) := Ev.alloc _ hok.fresh
    have h2 : Ev (s.alloc (.map es)) ((s.alloc (.map es)).alloc .dead) := Ev.alloc _ (h1.ok hok).fresh
    refine (h1.trans h2).trans (Ev.upd _ (o := .cells [many, .map (some m), now, .slice none 0 0, armed, acts, dn, down] .exact) ?_)
    rw [St.get_alloc_ne _ _ _ (by simp; omega), St.get_alloc_ne _ _ _ (by omega), hb]
  have e0 : tmA (argsTr [.pointer (some ⟨h, 0, none⟩), .slice none 0 0] 0 .nil) 0 = .pointer (some ⟨h, 0, none⟩) := rfl
  generalize argsTr [.pointer (some ⟨h, 0, none⟩), .slice none 0 0] 0 .nil = t0 at e0 ⊢
  refine MW.seqW tbH3_ok tbH3_nat (W.region ?_)
  refine WR.val rfl (by simp only [push_cast, tbH3_ty, Nat.reduceEqDiff, ↓reduceIte, e0]; rfl) ?_
  refine WR.val rfl (by simp only [push_cast, tbH3_ty, Nat.reduceEqDiff, ↓reduceIte]; rfl) ?_
  refine WR.val rfl (by simp only [push_cast, tbH3_ty, Nat.reduceEqDiff, ↓reduceIte]; exact faT f63_0 _ _) ?_
  refine WR.val rfl (by simp only [push_cast, tbH3_ty, Nat.reduceEqDiff, ↓reduceIte]; exact ldT one57 _ _ _ (.pointer (some ⟨b, 0, none⟩)) (by rw [bare_get, hh]; rfl)) ?_
  refine WR.val rfl (by simp only [push_cast, tbH3_ty, Nat.reduceEqDiff, ↓reduceIte]; rfl) (WR.nil ?_)
  refine MW.seqW tbH3_ok tbH3_nat (W.seq (W.region ?_))
  iterate 2 refine WR.val rfl (by simp only [push_cast, tbH3_ty, Nat.reduceEqDiff, ↓reduceIte]; rfl) ?_
  refine WR.val rfl (by simp only [push_cast, tbH3_ty, Nat.reduceEqDiff, ↓reduceIte]; exact faT f61_3 _ _) ?_
  refine WR.val rfl (by simp only [push_cast, tbH3_ty, Nat.reduceEqDiff, ↓reduceIte]; exact ldT one59 _ _ _ (.slice none 0 0) (by rw [bare_get, hb]; rfl)) ?_
  iterate 2 refine WR.val rfl (by simp only [push_cast, tbH3_ty, Nat.reduceEqDiff, ↓reduceIte]; rfl) ?_
  refine WR.nil (W.block (W.loopOut (W.seq (W.region ?_))))
  refine WR.val rfl (by simp only [push_cast, tbH3_ty, Nat.reduceEqDiff, ↓reduceIte]; rfl) (WR.nil ?_)
  refine W.seq (W.cond (b := decide ((0 : Int) < 0)) (by simp only [push_cast, tbH3_ty, Nat.reduceEqDiff, ↓reduceIte]) (fun hb => absurd (of_decide_eq_true hb) (by decide)) (fun _ => W.exit ?_))
  change MW Tryz.prog tbH3 (.seq (.region 7 crash_7 false) (.seq (.region 8 crash_8 false) (.seq (.seq (.region 9 crash_9 false) (.block 2 (.loop (.seq (.region 10 crash_10 false) (.seq (.cond (.tmp 55) .skip (.exit 2)) (.block 3 (.seq (.region 11 crash_11 false) (.region 12 crash_12 false)))))))) (.region 13 crash_13 false)))) _ (bare s) _
  refine MW.seqW tbH3_ok tbH3_nat (W.region ?_)
  iterate 2 refine WR.val rfl (by simp only [push_cast, tbH3_ty, Nat.reduceEqDiff, ↓reduceIte]; rfl) ?_
  refine WR.val rfl (by simp only [push_cast, tbH3_ty, Nat.reduceEqDiff, ↓reduceIte]; exact faT f61_3 _ _) ?_
  refine WR.do rfl (by simp only [push_cast, tbH3_ty, Nat.reduceEqDiff, ↓reduceIte]; exact stT one59 _ _ _ _ _ rfl (by rw [bare_get, hb]) (by simp)) (WR.nil ?_)
  refine MW.seqW tbH3_ok tbH3_nat (W.region ?_)
  refine WR.val rfl (by simp only [push_cast, tbH3_ty, Nat.reduceEqDiff, ↓reduceIte]; rfl) ?_
  refine WR.val rfl (by rfl) ?_
  refine WR.val rfl (by simp only [push_cast, tbH3_ty, Nat.reduceEqDiff, ↓reduceIte]; rfl) ?_
  refine WR.val rfl (by simp only [push_cast, tbH3_ty, Nat.reduceEqDiff, ↓reduceIte]; exact faT f61_2 _ _) ?_
  refine WR.do rfl (by simp only [push_cast, tbH3_ty, Nat.reduceEqDiff, ↓reduceIte]; exact stT one58 _ _ _ _ _ rfl (by rw [St.get_alloc_ne _ _ _ (by show b ≠ s.next; omega), St.get_upd_self]) (by simp)) (WR.nil ?_)
  obtain ⟨c8, hc8⟩ : ∃ c : List Value, c = [many, .map (some m), .map (some s.next), .slice none 0 0, armed, acts, dn, down] := ⟨_, rfl⟩
  obtain ⟨s8, hs8⟩ : ∃ s8 : St, s8 = (((bare s).upd b (.cells [many, .map (some m), now, .slice none 0 0, armed, acts, dn, down] .exact)).alloc (.map [])).upd b (.cells c8 .exact) := ⟨_, rfl⟩
  change MW Tryz.prog tbH3 _ _ ((((bare s).upd b (.cells [many, .map (some m), now, .slice none 0 0, armed, acts, dn, down] .exact)).alloc (.map [])).upd b (.cells [many, .map (some m), .map (some s.next), .slice none 0 0, armed, acts, dn, down] .exact)) _
  rw [← hc8, ← hs8]
  have hg8 : s8.get b = some (.cells c8 .exact) := by rw [hs8, St.get_upd_self]
  have hn8 : s8.next = s.next + 1 := by rw [hs8]; rfl
  have hm8 : s8.get m = some (.map es) := by rw [hs8, St.get_upd_ne _ _ _ _ hbm, St.get_alloc_ne _ _ _ (by show m ≠ s.next; omega), St.get_upd_ne _ _ _ _ hbm, bare_get, hm]
  refine MW.seq (MW.rangeMap tbH3_ok tbH3_nat (pre9 := (crash_9.toList).take 4) (o9 := (crash_9.toList).getD 4 default) (l10 := crash_10.toList.drop 1) (o10 := crash_10.toList.getD 0 default) (l11 := crash_11.toList.drop 1) (o11 := crash_11.toList.getD 0 default) (ti := 53) (tn := 54) (te := 56) (tmap := 52) (ty := 58) (kt := 3) (et := 47)
    rfl rfl rfl rfl und58 rfl rfl rfl rfl rfl rfl rfl rfl (m := m) (n := s.next + 1) (es := es) (CrI (bare s) b s.next c8) ?_ ?_ ?_ ?_)
  · refine WR.val rfl (by simp only [push_cast, tbH3_ty, Nat.reduceEqDiff, ↓reduceIte]; rfl) ?_
    refine WR.val rfl (by simp only [push_cast, tbH3_ty, Nat.reduceEqDiff, ↓reduceIte]; rfl) ?_
    refine WR.val rfl (by simp only [push_cast, tbH3_ty, Nat.reduceEqDiff, ↓reduceIte]; exact faT f61_1 _ _) ?_
    refine WR.val rfl (by simp only [push_cast, tbH3_ty, Nat.reduceEqDiff, ↓reduceIte]; exact ldT one58 _ _ _ (.map (some m)) (by rw [hg8, hc8]; rfl)) (WR.nil ?_)
    refine ⟨hn8, hm8, ?_, ?_⟩
    · simp only [push_cast, tbH3_ty, Nat.reduceEqDiff, ↓reduceIte]
    · refine ⟨_, rfl, ?_, ?_, ?_⟩
      · simp only [push_cast, tbH3_ty, Nat.reduceEqDiff, ↓reduceIte]
      · simp only [push_cast, tbH3_ty, Nat.reduceEqDiff, ↓reduceIte]
      · refine ⟨?_, ?_, ?_, fun i h1 h2 h3 => ?_, fun i hi => ?_⟩
        · rw [St.get_alloc_ne _ _ _ (by omega), hg8]
        · rw [St.get_alloc_ne _ _ _ (by omega), hs8, St.get_upd_ne _ _ _ _ (by omega)]; exact St.get_alloc_self _ _
        · rw [← hn8, St.get_alloc_self]
        · rw [St.get_alloc_ne _ _ _ (by omega), hs8, St.get_upd_ne _ _ _ _ h1, St.get_alloc_ne _ _ _ (by exact h2), St.get_upd_ne _ _ _ _ h1]
        · have hi : i ∈ s8.mods := hi
          rw [hs8] at hi
          rcases List.mem_cons.1 hi with hi | hi
          · exact .inl hi
          · rcases List.mem_cons.1 (show i ∈ b :: [] from hi) with hi | hi
            · exact .inl hi
            · cases hi
  · rintro vis a' s' ⟨tm, rfl, h4, h53, hS⟩
    refine ⟨by rw [hS.old m hbm (by omega) (by omega)]; exact hm, fun hmm => ?_, h53, hdom_of hS.gd⟩
    rcases hS.mods m hmm with e | e <;> omega
  · rintro vis p rest a' s' ⟨tm, rfl, h4, h53, hS⟩ hp
    obtain ⟨⟨n, hpn⟩, hnew⟩ := hk.new hp
    have hmm : s'.get m = some (.map es) := by rw [hS.old m hbm (by omega) (by omega)]; exact hm
    refine WR.val rfl (by simp only [push_cast, tbH3_ty, Nat.reduceEqDiff, ↓reduceIte]; rfl) (WR.nil ⟨?_, fun hmm => ?_, hmm, ?_, ?_⟩)
    · simp only [push_cast, tbH3_ty, Nat.reduceEqDiff, ↓reduceIte]
    · rcases hS.mods m hmm with e | e <;> omega
    · simp only [push_cast, tbH3_ty, Nat.reduceEqDiff, ↓reduceIte, h53]
    refine WR.val rfl (by simp only [push_cast, tbH3_ty, Nat.reduceEqDiff, ↓reduceIte]; rfl) ?_
    iterate 3 refine WR.val rfl (by simp only [push_cast, tbH3_ty, Nat.reduceEqDiff, ↓reduceIte]; rfl) ?_
    refine WR.nil (MW.of tbH3_ok tbH3_nat (W.region ?_))
    refine WR.val rfl (by simp only [push_cast, tbH3_ty, Nat.reduceEqDiff, ↓reduceIte, h4]; rfl) ?_
    refine WR.val rfl (by simp only [push_cast, tbH3_ty, Nat.reduceEqDiff, ↓reduceIte]; rfl) ?_
    refine WR.val rfl (by simp only [push_cast, tbH3_ty, Nat.reduceEqDiff, ↓reduceIte]; exact faT f61_2 _ _) ?_
    refine WR.val rfl (by simp only [push_cast, tbH3_ty, Nat.reduceEqDiff, ↓reduceIte]; exact ldT one58 _ _ _ (.map (some s.next)) (by rw [hS.gb, hc8]; rfl)) ?_
    iterate 2 refine WR.val rfl (by simp only [push_cast, tbH3_ty, Nat.reduceEqDiff, ↓reduceIte]; rfl) ?_
    refine WR.do rfl (by simp only [push_cast, tbH3_ty, Nat.reduceEqDiff, ↓reduceIte]; exact upd58 _ _ _ _ n vis hpn hS.gn hnew) (WR.nil ⟨rfl, _, rfl, ?_, ?_, hS.updn (by omega)⟩)
    · simp only [push_cast, tbH3_ty, Nat.reduceEqDiff, ↓reduceIte, h4]
    · simp only [push_cast, tbH3_ty, Nat.reduceEqDiff, ↓reduceIte, h53]
  · rintro vis a' s' ⟨tm, rfl, h4, h53, hS⟩ hp
    have hmm : s'.get m = some (.map es) := by rw [hS.old m hbm (by omega) (by omega)]; exact hm
    refine WR.val rfl (by simp only [push_cast, tbH3_ty, Nat.reduceEqDiff, ↓reduceIte]; rfl) (WR.nil ⟨?_, ?_⟩)
    · simp only [push_cast, tbH3_ty, Nat.reduceEqDiff, ↓reduceIte]
    refine MW.permMap hS.gn hmm hp (MW.of tbH3_ok tbH3_nat (W.region ?_))
    have hS2 := hS.updn (vis' := es) (by omega : b ≠ s.next)
    iterate 2 refine WR.val rfl (by simp only [push_cast, tbH3_ty, Nat.reduceEqDiff, ↓reduceIte, h4]; rfl) ?_
    refine WR.val rfl (by simp only [push_cast, tbH3_ty, Nat.reduceEqDiff, ↓reduceIte]; rfl) ?_
    refine WR.val rfl (by simp only [push_cast, tbH3_ty, Nat.reduceEqDiff, ↓reduceIte]; exact faT f61_4 _ _) ?_
    refine WR.do rfl (by simp only [push_cast, tbH3_ty, Nat.reduceEqDiff, ↓reduceIte]; exact stT one4 _ _ _ _ _ rfl hS2.gb (by rw [hc8]; simp)) ?_
    have hS3 := hS2.updb (c' := c8.set 4 (.bool false)) (by omega) (by omega)
    refine WR.val rfl (by simp only [push_cast, tbH3_ty, Nat.reduceEqDiff, ↓reduceIte]; rfl) ?_
    refine WR.val rfl (by simp only [push_cast, tbH3_ty, Nat.reduceEqDiff, ↓reduceIte]; exact faT f61_7 _ _) ?_
    refine WR.do rfl (by simp only [push_cast, tbH3_ty, Nat.reduceEqDiff, ↓reduceIte]; exact stT one4 _ _ _ _ _ rfl hS3.gb (by rw [hc8]; simp)) (WR.nil ?_)
    have hS4 := hS3.updb (c' := (c8.set 4 (.bool false)).set 7 (.bool false)) (by omega) (by omega)
    refine ⟨.inl rfl, rfl, ⟨[], rfl, rfl⟩, ?_, fun i hi hd => ?_⟩
    · funext i
      by_cases e1 : i = b
      · subst e1; exact hS4.gb.trans (by rw [St.get_upd_self, hc8]; rfl)
      · by_cases e3 : i = s.next + 1
        · subst e3
          exact hS4.gd.trans (by rw [St.get_upd_ne _ _ _ _ e1]; exact (St.get_alloc_self (s.alloc (.map es)) .dead).symm)
        · by_cases e2 : i = s.next
          · subst e2; exact hS4.gn.trans (by rw [St.get_upd_ne _ _ _ _ e1, St.get_alloc_ne _ _ _ (by exact e3), St.get_alloc_self])
          · exact (hS4.old i e1 e2 e3).trans (by rw [St.get_upd_ne _ _ _ _ e1, St.get_alloc_ne _ _ _ (by exact e3), St.get_alloc_ne _ _ _ e2]; rfl)
    · rcases hS4.mods i hi with e | e
      · rw [e]; exact List.mem_cons_self
      · have := hok i hd; omega
end Go.Proofs.Ae
namespace Go.Proofs.Ae
open Go.Proofs
noncomputable def memI (n : Int) (l : List Int) : Bool := List.rec (motive := fun _ => Bool) false (fun x _ ih => Bool.rec (motive := fun _ => Bool) ih true (eqI n x)) l
theorem memI_false {n : Int} : ∀ {l : List Int}, memI n l = false → n ∉ l
  | [], _ => by simp
  | x :: l, h => by
    have h' : (Bool.rec (motive := fun _ => Bool) (memI n l) true (eqI n x)) = false := h
    cases hx : eqI n x with
    | true => rw [hx] at h'; cases h'
    | false =>
      rw [hx] at h'
      have := memI_false (l := l) h'
      intro hm
      rcases List.mem_cons.1 hm with rfl | hm
      · rw [eqI_eq] at hx; simp at hx
      · exact this hm
def keyInts : List (Value × Value) → Option (List Int)
  | [] => some []
  | (k, _) :: l => match k with
    | .int .i64 n => match keyInts l with
      | some r => some (n :: r)
      | none => none
    | _ => none
noncomputable def dist (l : List Int) : Bool := List.rec (motive := fun _ => Bool) true (fun x t ih => Bool.rec (motive := fun _ => Bool) ih false (memI x t)) l
theorem dist_nodup : ∀ {l : List Int}, dist l = true → l.Nodup
  | [], _ => List.nodup_nil
  | x :: l, h => by
    have h' : (Bool.rec (motive := fun _ => Bool) (dist l) false (memI x l)) = true := h
    cases hx : memI x l with
    | true => rw [hx] at h'; cases h'
    | false =>
      rw [hx] at h'
      exact List.nodup_cons.2 ⟨memI_false hx, dist_nodup h'⟩
theorem keyInts_spec : ∀ {es : List (Value × Value)} {ks : List Int}, keyInts es = some ks → es.map Prod.fst = ks.map (.int .i64)
  | [], ks, h => by cases h; rfl
  | (k, v) :: l, ks, h => by
    unfold keyInts at h
    split at h
    · rename_i n
      cases hr : keyInts l with
      | none => rw [hr] at h; cases h
      | some r =>
        rw [hr] at h
        cases h
        simp [keyInts_spec hr]
    · cases h
theorem keysI_of {es : List (Value × Value)} {ks : List Int} (h : keyInts es = some ks) (hd : dist ks = true) : keysI es := by
  have hm := keyInts_spec h
  refine ⟨fun p hp => ?_, ?_⟩
  · have : p.1 ∈ es.map Prod.fst := List.mem_map.2 ⟨p, hp, rfl⟩
    rw [hm] at this
    obtain ⟨n, _, hn⟩ := List.mem_map.1 this
    exact ⟨n, hn.symm⟩
  · rw [hm]
    have hn := dist_nodup hd
    rw [List.nodup_iff_pairwise_ne] at hn ⊢
    exact (List.pairwise_map.2 (hn.imp fun hne e => hne (by cases e; rfl)))
noncomputable def crB (s : St) (b : Nat) (o : Option AObj) : Option (Value × St) := match o with
  | some (.cells [many, .map (some m), now, .slice none 0 0, armed, acts, dn, down] .exact) => match s.get m with
    | some (.map es) => match keyInts es with
      | some ks => bif dist ks then some (unitV, ((s.alloc (.map es)).alloc .dead).upd b (.cells (crashC many m s.next acts dn) .exact)) else none
      | none => none
    | _ => none
  | _ => none
noncomputable def nCrashB : NatF := fun args s => match args with
  | [.pointer (some ⟨h, 0, none⟩), .slice none 0 0] => match s.get h with
    | some (.cells [.pointer (some ⟨b, 0, none⟩)] _) => crB s b (s.get b)
    | _ => none
  | _ => none
theorem nCrashB_ok : ∀ args s v s', nCrashB args s = some (v, s') → CSem Tryz.prog tbH3 16 args s v s' := by
  intro args s v s' h
  unfold nCrashB at h
  split at h
  · rename_i hd
    split at h
    · rename_i b md hh
      unfold crB at h
      split at h
      · rename_i many m now armed acts dn down hb
        split at h
        · rename_i es hm
          split at h
          · rename_i ks hk
            obtain ⟨hdk, h⟩ := bif_some h
            cases h
            exact CSem.ofOk (is_enters 16 Tryz.func16 (by kernel_rfl) (by kernel_rfl)) fun hok => crash_C s hd b m md many now armed acts dn down es hh hb hm (keysI_of hk hdk) hok
          · cases h
        · cases h
      · cases h
    · cases h
  · cases h
end Go.Proofs.Ae
namespace Go.Proofs.Ae
noncomputable def natAN0 : Tr NatF := Tr.node (some nStrCmp) Tr.nil Tr.nil
noncomputable def natAN1 : Tr NatF := Tr.node none natAN0 Tr.nil
noncomputable def natAN2 : Tr NatF := Tr.node none Tr.nil natAN1
noncomputable def natAN3 : Tr NatF := Tr.node none Tr.nil natAN2
noncomputable def natAN4 : Tr NatF := Tr.node none Tr.nil natAN3
noncomputable def natAN5 : Tr NatF := Tr.node none Tr.nil natAN4
noncomputable def natAN6 : Tr NatF := Tr.node (some (nErrNo 36 0 182 7 30)) Tr.nil Tr.nil
noncomputable def natAN7 : Tr NatF := Tr.node none natAN6 Tr.nil
noncomputable def natAN8 : Tr NatF := Tr.node none natAN5 natAN7
noncomputable def natAN9 : Tr NatF := Tr.node (some nCrashB) Tr.nil Tr.nil
noncomputable def natAN10 : Tr NatF := Tr.node none natAN9 Tr.nil
noncomputable def natAN11 : Tr NatF := Tr.node (some nRchgB) Tr.nil Tr.nil
noncomputable def natAN12 : Tr NatF := Tr.node none natAN11 Tr.nil
noncomputable def natAN13 : Tr NatF := Tr.node none Tr.nil natAN12
noncomputable def natAN14 : Tr NatF := Tr.node (some (nErrIs 36)) natAN13 Tr.nil
noncomputable def natAN15 : Tr NatF := Tr.node none natAN14 Tr.nil
noncomputable def natAN16 : Tr NatF := Tr.node none natAN10 natAN15
noncomputable def natAN17 : Tr NatF := Tr.node (some nMacB) Tr.nil Tr.nil
noncomputable def natAN18 : Tr NatF := Tr.node none natAN17 Tr.nil
noncomputable def natAN19 : Tr NatF := Tr.node none Tr.nil natAN18
noncomputable def natAN20 : Tr NatF := Tr.node none Tr.nil natAN19
noncomputable def natAN21 : Tr NatF := Tr.node none natAN20 Tr.nil
noncomputable def natAN22 : Tr NatF := Tr.node none natAN16 natAN21
noncomputable def natAN23 : Tr NatF := Tr.node none natAN8 natAN22
noncomputable def natA : Tr NatF := natAN23
noncomputable def tbA : Tb := ⟨tyT, fnT, natA.get, glF⟩
end Go.Proofs.Ae
namespace Go.Proofs.Ae
open Go.Proofs
def NatP (tb : Tb) (k : Nat) (nat : NatF) : Prop := ∀ args s v s', nat args s = some (v, s') → CSem Tryz.prog tb k args s v s'
theorem nknatA9 : NatP tbA 9 (nErrNo 36 0 182 7 30) := fun args s v s' h => nErrNo_ok rfl rfl args s v s' h
theorem nknatA16 : NatP tbA 16 nCrashB := fun args s v s' h => CSem.conv (tb := tbH3) (tb' := tbA) rfl rfl (nCrashB_ok args s v s' h)
theorem nknatA20 : NatP tbA 20 (nErrIs 36) := fun args s v s' h => nErrIs_ok args s v s' h
theorem nknatA90 : NatP tbA 90 nMacB := fun args s v s' h => CSem.conv (tb := tbH3) (tb' := tbA) rfl rfl (nMacB_ok args s v s' h)
theorem nknatA164 : NatP tbA 164 nRchgB := fun args s v s' h => CSem.conv (tb := tbH3) (tb' := tbA) rfl rfl (nRchgB_ok args s v s' h)
theorem nknatA187 : NatP tbA 187 nStrCmp := fun args s v s' h => nStrCmp_ok args s v s' h
theorem natAA0 : TrAll (NatP tbA) natAN0 128 187 := ⟨(some_all nknatA187), trivial, trivial⟩
theorem natAA1 : TrAll (NatP tbA) natAN1 64 123 := ⟨none_all, natAA0, trivial⟩
theorem natAA2 : TrAll (NatP tbA) natAN2 32 59 := ⟨none_all, trivial, natAA1⟩
theorem natAA3 : TrAll (NatP tbA) natAN3 16 27 := ⟨none_all, trivial, natAA2⟩
theorem natAA4 : TrAll (NatP tbA) natAN4 8 11 := ⟨none_all, trivial, natAA3⟩
theorem natAA5 : TrAll (NatP tbA) natAN5 4 3 := ⟨none_all, trivial, natAA4⟩
theorem natAA6 : TrAll (NatP tbA) natAN6 8 9 := ⟨(some_all nknatA9), trivial, trivial⟩
theorem natAA7 : TrAll (NatP tbA) natAN7 4 5 := ⟨none_all, natAA6, trivial⟩
theorem natAA8 : TrAll (NatP tbA) natAN8 2 1 := ⟨none_all, natAA5, natAA7⟩
theorem natAA9 : TrAll (NatP tbA) natAN9 16 16 := ⟨(some_all nknatA16), trivial, trivial⟩
theorem natAA10 : TrAll (NatP tbA) natAN10 8 8 := ⟨none_all, natAA9, trivial⟩
theorem natAA11 : TrAll (NatP tbA) natAN11 128 164 := ⟨(some_all nknatA164), trivial, trivial⟩
theorem natAA12 : TrAll (NatP tbA) natAN12 64 100 := ⟨none_all, natAA11, trivial⟩
theorem natAA13 : TrAll (NatP tbA) natAN13 32 36 := ⟨none_all, trivial, natAA12⟩
theorem natAA14 : TrAll (NatP tbA) natAN14 16 20 := ⟨(some_all nknatA20), natAA13, trivial⟩
theorem natAA15 : TrAll (NatP tbA) natAN15 8 12 := ⟨none_all, natAA14, trivial⟩
theorem natAA16 : TrAll (NatP tbA) natAN16 4 4 := ⟨none_all, natAA10, natAA15⟩
theorem natAA17 : TrAll (NatP tbA) natAN17 64 90 := ⟨(some_all nknatA90), trivial, trivial⟩
theorem natAA18 : TrAll (NatP tbA) natAN18 32 58 := ⟨none_all, natAA17, trivial⟩
theorem natAA19 : TrAll (NatP tbA) natAN19 16 26 := ⟨none_all, trivial, natAA18⟩
theorem natAA20 : TrAll (NatP tbA) natAN20 8 10 := ⟨none_all, trivial, natAA19⟩
theorem natAA21 : TrAll (NatP tbA) natAN21 4 6 := ⟨none_all, natAA20, trivial⟩
theorem natAA22 : TrAll (NatP tbA) natAN22 2 2 := ⟨none_all, natAA16, natAA21⟩
theorem natAA23 : TrAll (NatP tbA) natAN23 1 0 := ⟨none_all, natAA8, natAA22⟩
theorem tbA_ok : TbOk Tryz.prog tbA := TbOk.conv (tb := tb0) (tb' := tbA) rfl rfl rfl tb0_ok
theorem tbA_nat : NatOk Tryz.prog tbA := fun f nat h => (natAA23).all f nat h
end Go.Proofs.Ae
