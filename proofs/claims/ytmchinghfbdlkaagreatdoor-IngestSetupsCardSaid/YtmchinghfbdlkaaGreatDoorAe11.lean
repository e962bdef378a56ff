/- A part of the proof that the program's function answers true: lemmas (Lst1 to Ref6) on carrying the program out over names of memory objects. No condition. -/
import Derived.Test.YtmchinghfbdlkaaGreatDoorAe10
set_option linter.unusedVariables false
set_option linter.unusedSimpArgs false
namespace Go.Proofs.Ae
theorem bitI_nat (k : IntKind) (f : Nat → Nat → Nat) (g : BitVec k.bits → BitVec k.bits → BitVec k.bits) (x y : Nat) (hx : x ≤ kmax k) (hy : y ≤ kmax k) : bitI k f g (x : Int) (y : Int) = ((f x y : Nat) : Int) := by
  change (bif Nat.ble x (kmax k) && Nat.ble y (kmax k) then Int.ofNat (f x y) else _) = _
  rw [Nat.ble_eq_true_of_le hx, Nat.ble_eq_true_of_le hy]; rfl
theorem wrap32 (n : Nat) : IntKind.u32.wrap (n : Int) = ((n % 4294967296 : Nat) : Int) := by
  have : IntKind.u32.wrap (n : Int) = (n : Int) % 4294967296 := by
    simp [IntKind.wrap, IntKind.bits, IntKind.signed]
  rw [this]; omega
theorem wrap8 (n : Nat) : IntKind.u8.wrap (n : Int) = ((n % 256 : Nat) : Int) := by
  have : IntKind.u8.wrap (n : Int) = (n : Int) % 256 := by
    simp [IntKind.wrap, IntKind.bits, IntKind.signed]
  rw [this]; omega
theorem shl32 (x q : Nat) (hq : q ≤ 32) : shlI .u32 (x : Int) (q : Int) = ((x * 2 ^ q % 4294967296 : Nat) : Int) := by
  change wrapN .u32 (x * 2 ^ (min q 32)) = _
  rw [wrapN_eq, show min q 32 = q from by omega]
  exact wrap32 _
theorem shr32 (x q : Nat) (hq : q ≤ 32) : shrI .u32 (x : Int) (q : Int) = ((x / 2 ^ q : Nat) : Int) := by
  change Int.ofNat (x / 2 ^ (min q 32)) = _
  rw [show min q 32 = q from by omega]; rfl
theorem rot_eq (x n : Nat) (k : Int) (hx : x < 4294967296) (hn : n ≤ 32) (h1 : rotS k = ((32 - n : Nat) : Int)) (h2 : IntKind.u64.wrap (32 - rotS k) = (n : Int)) : rotV (x : Int) k = ((rotr x n : Nat) : Int) := by
  have hm : x * 2 ^ (32 - n) % 4294967296 ≤ kmax .u32 := by have := Nat.mod_lt (x * 2 ^ (32 - n)) (show 4294967296 > 0 by omega); simp only [kmax]; omega
  have hd : x / 2 ^ n ≤ kmax .u32 := by have := Nat.div_le_self x (2 ^ n); simp only [kmax]; omega
  rw [rotV, h2, h1, shl32 _ _ (by omega), shr32 _ _ hn, bitI_nat _ _ _ _ _ hm hd]
  unfold rotr m32
  rw [show x.shiftRight n = x / 2 ^ n from Nat.shiftRight_eq_div_pow x n, show x.shiftLeft (32 - n) = x * 2 ^ (32 - n) from Nat.shiftLeft_eq x _]
  congr 1
  exact Nat.or_comm _ _
theorem r6 (x : Nat) (h : x < 4294967296) : rotV (x : Int) (-6) = ((rotr x 6 : Nat) : Int) := rot_eq x 6 (-6) h (by omega) (by rfl) (by rfl)
theorem r11 (x : Nat) (h : x < 4294967296) : rotV (x : Int) (-11) = ((rotr x 11 : Nat) : Int) := rot_eq x 11 (-11) h (by omega) (by rfl) (by rfl)
theorem r25 (x : Nat) (h : x < 4294967296) : rotV (x : Int) (-25) = ((rotr x 25 : Nat) : Int) := rot_eq x 25 (-25) h (by omega) (by rfl) (by rfl)
theorem r2 (x : Nat) (h : x < 4294967296) : rotV (x : Int) (-2) = ((rotr x 2 : Nat) : Int) := rot_eq x 2 (-2) h (by omega) (by rfl) (by rfl)
theorem r13 (x : Nat) (h : x < 4294967296) : rotV (x : Int) (-13) = ((rotr x 13 : Nat) : Int) := rot_eq x 13 (-13) h (by omega) (by rfl) (by rfl)
theorem r22 (x : Nat) (h : x < 4294967296) : rotV (x : Int) (-22) = ((rotr x 22 : Nat) : Int) := rot_eq x 22 (-22) h (by omega) (by rfl) (by rfl)
theorem r7 (x : Nat) (h : x < 4294967296) : rotV (x : Int) (-7) = ((rotr x 7 : Nat) : Int) := rot_eq x 7 (-7) h (by omega) (by rfl) (by rfl)
theorem r18 (x : Nat) (h : x < 4294967296) : rotV (x : Int) (-18) = ((rotr x 18 : Nat) : Int) := rot_eq x 18 (-18) h (by omega) (by rfl) (by rfl)
theorem r17 (x : Nat) (h : x < 4294967296) : rotV (x : Int) (-17) = ((rotr x 17 : Nat) : Int) := rot_eq x 17 (-17) h (by omega) (by rfl) (by rfl)
theorem r19 (x : Nat) (h : x < 4294967296) : rotV (x : Int) (-19) = ((rotr x 19 : Nat) : Int) := rot_eq x 19 (-19) h (by omega) (by rfl) (by rfl)
theorem xorB {x y : Nat} (hx : x < 4294967296) (hy : y < 4294967296) : Nat.xor x y < 4294967296 := Nat.xor_lt_two_pow (n := 32) hx hy
theorem andB {x y : Nat} (hx : x < 4294967296) : Nat.land x y < 4294967296 := Nat.lt_of_le_of_lt Nat.and_le_left hx
theorem orB {x y : Nat} (hx : x < 4294967296) (hy : y < 4294967296) : Nat.lor x y < 4294967296 := Nat.or_lt_two_pow (n := 32) hx hy
theorem rotB (x n : Nat) (hx : x < 4294967296) : rotr x n < 4294967296 := by
  unfold rotr m32
  refine orB ?_ (Nat.mod_lt _ (by omega))
  rw [show x.shiftRight n = x / 2 ^ n from Nat.shiftRight_eq_div_pow x n]
  exact Nat.lt_of_le_of_lt (Nat.div_le_self _ _) hx
theorem xorW_nat {x y : Nat} (hx : x < 4294967296) (hy : y < 4294967296) : xorW (x : Int) (y : Int) = ((Nat.xor x y : Nat) : Int) := bitI_nat _ _ _ _ _ (by simp only [kmax]; omega) (by simp only [kmax]; omega)
theorem andW_nat {x y : Nat} (hx : x < 4294967296) (hy : y < 4294967296) : andW (x : Int) (y : Int) = ((Nat.land x y : Nat) : Int) := bitI_nat _ _ _ _ _ (by simp only [kmax]; omega) (by simp only [kmax]; omega)
theorem notW_nat {x : Nat} (hx : x < 4294967296) : notW (x : Int) = ((Nat.xor x 4294967295 : Nat) : Int) := by
  have h1 : (BitVec.ofInt IntKind.u32.bits (x : Int)).toNat = x := ofInt_toNat .u32 x (by simp only [kmax]; omega)
  have h2 : (BitVec.ofInt IntKind.u32.bits (if IntKind.u32.signed = true then -1 else IntKind.u32.max)).toNat = 4294967295 := by rfl
  unfold notW
  rw [BitVec.toNat_xor, h1, h2, wrap32]
  have h3 : Nat.xor 4294967295 x = Nat.xor x 4294967295 := Nat.xor_comm _ _
  have h4 := xorB hx (show 4294967295 < 4294967296 by omega)
  change ((Nat.xor 4294967295 x % 4294967296 : Nat) : Int) = _
  rw [h3, Nat.mod_eq_of_lt h4]
theorem sig3_nat {x : Nat} (hx : x < 4294967296) (a b c : Int) (p q r : Nat) (ha : rotV (x : Int) a = ((rotr x p : Nat) : Int)) (hb : rotV (x : Int) b = ((rotr x q : Nat) : Int)) (hc : rotV (x : Int) c = ((rotr x r : Nat) : Int)) :
    sig3 (x : Int) a b c = ((Nat.xor (Nat.xor (rotr x p) (rotr x q)) (rotr x r) : Nat) : Int) := by
  rw [sig3, ha, hb, hc, xorW_nat (rotB _ _ hx) (rotB _ _ hx), xorW_nat (xorB (rotB _ _ hx) (rotB _ _ hx)) (rotB _ _ hx)]
def nI (l : List Nat) : List Int := l.map Int.ofNat
theorem add32 (a b : Nat) : IntKind.u32.wrap ((a : Int) + (b : Int)) = (((a + b) % 4294967296 : Nat) : Int) := by
  rw [show (a : Int) + (b : Int) = ((a + b : Nat) : Int) from by omega, wrap32]
def S8.ok (s : S8) : Prop := s.a < 4294967296 ∧ s.b < 4294967296 ∧ s.c < 4294967296 ∧ s.d < 4294967296 ∧ s.e < 4294967296 ∧ s.f < 4294967296 ∧ s.g < 4294967296 ∧ s.h < 4294967296
theorem round_nat (s : S8) (hs : s.ok) (k w : Nat) : roundW (nI (s8L s)) (k : Int) (w : Int) = nI (s8L (round8 s k w)) := by
  obtain ⟨a, b, c, d, e, f, g, h⟩ := s
  obtain ⟨ha, hb, hc, hd, he, hf, hg, hh⟩ := hs
  simp only at ha hb hc hd he hf hg hh
  have hT : roundT (nI (s8L ⟨a, b, c, d, e, f, g, h⟩)) (k : Int) (w : Int) = (((h + Nat.xor (Nat.xor (rotr e 6) (rotr e 11)) (rotr e 25) + Nat.xor (Nat.land e f) (Nat.land (Nat.xor e 4294967295) g) + k + w) % 4294967296 : Nat) : Int) := by
    have h1 := sig3_nat he (-6) (-11) (-25) 6 11 25 (r6 e he) (r11 e he) (r25 e he)
    have h2 : xorW (andW (e : Int) (f : Int)) (andW (notW (e : Int)) (g : Int)) = ((Nat.xor (Nat.land e f) (Nat.land (Nat.xor e 4294967295) g) : Nat) : Int) := by
      rw [notW_nat he, andW_nat he hf, andW_nat (xorB he (by omega)) hg, xorW_nat (andB he) (andB (xorB he (by omega)))]
    change IntKind.u32.wrap (IntKind.u32.wrap (IntKind.u32.wrap (IntKind.u32.wrap ((h : Int) + sig3 (e : Int) (-6) (-11) (-25)) + xorW (andW (e : Int) (f : Int)) (andW (notW (e : Int)) (g : Int))) + (k : Int)) + (w : Int)) = _
    rw [h1, h2, add32, add32, add32, add32]
    congr 1
    omega
  have hU : roundU (nI (s8L ⟨a, b, c, d, e, f, g, h⟩)) = (((Nat.xor (Nat.xor (rotr a 2) (rotr a 13)) (rotr a 22) + Nat.xor (Nat.xor (Nat.land a b) (Nat.land a c)) (Nat.land b c)) % 4294967296 : Nat) : Int) := by
    have h1 := sig3_nat ha (-2) (-13) (-22) 2 13 22 (r2 a ha) (r13 a ha) (r22 a ha)
    change IntKind.u32.wrap (sig3 (a : Int) (-2) (-13) (-22) + xorW (xorW (andW (a : Int) (b : Int)) (andW (a : Int) (c : Int))) (andW (b : Int) (c : Int))) = _
    rw [h1, andW_nat ha hb, andW_nat ha hc, andW_nat hb hc, xorW_nat (andB ha) (andB ha), xorW_nat (xorB (andB ha) (andB ha)) (andB hb), add32]
  have hd' : atI (nI (s8L ⟨a, b, c, d, e, f, g, h⟩)) 3 = (d : Int) := rfl
  rw [roundW, hT, hU, hd', add32, add32]
  unfold round8 s8L nI
  simp only [List.map_cons, List.map_nil]
  have e1 : ∀ x y : Nat, (x % 4294967296 + y % 4294967296) % 4294967296 = (x + y) % m32 := fun x y => by unfold m32; omega
  have e2 : ∀ x y : Nat, (x + y % 4294967296) % 4294967296 = (x + y) % m32 := fun x y => by unfold m32; omega
  rw [e1, e2]
  rfl
theorem round8_ok (s : S8) (hs : s.ok) (k w : Nat) : (round8 s k w).ok := by
  obtain ⟨ha, hb, hc, hd, he, hf, hg, hh⟩ := hs
  exact ⟨Nat.mod_lt _ (by decide), ha, hb, hc, Nat.mod_lt _ (by decide), he, hf, hg⟩
end Go.Proofs.Ae
namespace Go.Proofs.Ae
theorem nI_len (l : List Nat) : (nI l).length = l.length := by simp [nI]
theorem atI_nI (l : List Nat) (i : Nat) : atI (nI l) i = ((l.getD i 0 : Nat) : Int) := by
  simp only [atI, nI, List.getD_eq_getElem?_getD, List.getElem?_map]
  cases l[i]? <;> rfl
def rndN (ks ws : List Nat) (s : S8) : Nat → S8
  | 0 => s
  | j + 1 => round8 (rndN ks ws s j) (ks.getD j 0) (ws.getD j 0)
theorem rndN_ok (ks ws : List Nat) (s : S8) (hs : s.ok) : ∀ j, (rndN ks ws s j).ok
  | 0 => hs
  | j + 1 => round8_ok _ (rndN_ok ks ws s hs j) _ _
theorem roundsW_nat (ks ws : List Nat) (s : S8) (hs : s.ok) : ∀ j, roundsW (nI ks) (nI ws) (nI (s8L s)) j = nI (s8L (rndN ks ws s j))
  | 0 => rfl
  | j + 1 => by rw [roundsW, roundsW_nat ks ws s hs j, atI_nI, atI_nI, round_nat _ (rndN_ok ks ws s hs j)]; rfl
theorem rndN_congr (ks ws ws' : List Nat) (s : S8) : ∀ j, (∀ i, i < j → ws.getD i 0 = ws'.getD i 0) → rndN ks ws s j = rndN ks ws' s j
  | 0, _ => rfl
  | j + 1, h => by rw [rndN, rndN, rndN_congr ks ws ws' s j (fun i hi => h i (by omega)), h j (by omega)]
def ext (l : List Nat) : Nat → List Nat
  | 0 => l
  | n + 1 => ext l n ++ [nextW ((ext l n).drop n)]
theorem ext_len (l : List Nat) : ∀ n, (ext l n).length = l.length + n
  | 0 => rfl
  | n + 1 => by simp [ext, ext_len l n]; omega
theorem ext_get (l : List Nat) (j : Nat) : ∀ n i, i < l.length + j → j ≤ n → (ext l n).getD i 0 = (ext l j).getD i 0
  | 0, i, hi, hj => by
    have : j = 0 := by omega
    subst this; rfl
  | n + 1, i, hi, hj => by
    by_cases e : j = n + 1
    · subst e; rfl
    · rw [← ext_get l j n i hi (by omega), ext, List.getD_eq_getElem?_getD, List.getD_eq_getElem?_getD, List.getElem?_append_left (by rw [ext_len]; omega)]
theorem win_step (l : List Nat) (hl : l.length = 16) (j : Nat) : ((ext l j).drop j).tail ++ [nextW ((ext l j).drop j)] = (ext l (j + 1)).drop (j + 1) := by
  rw [ext, List.drop_append_of_le_length (by rw [ext_len]; omega), List.tail_drop]
theorem win_head (l : List Nat) (hl : l.length = 16) (j n : Nat) (hj : j ≤ n) : ((ext l j).drop j).headD 0 = (ext l n).getD j 0 := by
  rw [ext_get l j n j (by omega) hj]
  rw [List.getD_eq_getElem?_getD, List.headD_eq_head?_getD, List.head?_drop]
theorem rounds8_eq (l K : List Nat) (hl : l.length = 16) (n : Nat) (s : S8) : ∀ (m j : Nat), j + m = K.length → K.length ≤ n → rounds8 (K.drop j) ((ext l j).drop j) (rndN K (ext l n) s j) = rndN K (ext l n) s K.length
  | 0, j, h, _ => by
    have : j = K.length := by omega
    subst this
    rw [List.drop_length]; rfl
  | m + 1, j, h, hn => by
    have hj : j < K.length := by omega
    rw [List.drop_eq_getElem_cons hj]
    change rounds8 (K.drop (j + 1)) (((ext l j).drop j).tail ++ [nextW ((ext l j).drop j)]) (round8 (rndN K (ext l n) s j) K[j] (((ext l j).drop j).headD 0)) = _
    rw [win_step l hl j, win_head l hl j n (by omega), ← rounds8_eq l K hl n s m (j + 1) (by omega) hn]
    congr 1
    rw [rndN]
    congr 1
    rw [List.getD_eq_getElem?_getD, List.getElem?_eq_getElem hj]; rfl
theorem sig_nat {x : Nat} (hx : x < 4294967296) (a b : Int) (p q r : Nat) (hr : r ≤ 32) (ha : rotV (x : Int) a = ((rotr x p : Nat) : Int)) (hb : rotV (x : Int) b = ((rotr x q : Nat) : Int)) :
    sig (x : Int) a b (r : Int) = ((Nat.xor (Nat.xor (rotr x p) (rotr x q)) (Nat.shiftRight x r) : Nat) : Int) := by
  have hs : x / 2 ^ r < 4294967296 := Nat.lt_of_le_of_lt (Nat.div_le_self _ _) hx
  rw [sig, ha, hb, xorW_nat (rotB _ _ hx) (rotB _ _ hx), shr32 _ _ hr, xorW_nat (xorB (rotB _ _ hx) (rotB _ _ hx)) hs]
  rw [show x.shiftRight r = x / 2 ^ r from Nat.shiftRight_eq_div_pow x r]
def all32 (l : List Nat) : Prop := ∀ i, l.getD i 0 < 4294967296
theorem more_nat (w : List Nat) (hw : all32 w) (j : Nat) :
    moreW (nI w) (16 + j) = (((w.getD j 0 + sig0 (w.getD (j + 1) 0) + w.getD (j + 9) 0 + sig1 (w.getD (j + 14) 0)) % m32 : Nat) : Int) := by
  unfold moreW
  rw [atI_nI, atI_nI, atI_nI, atI_nI, show 16 + j - 16 = j from by omega, show 16 + j - 15 = j + 1 from by omega, show 16 + j - 7 = j + 9 from by omega, show 16 + j - 2 = j + 14 from by omega]
  have h1 := sig_nat (hw (j + 1)) (-7) (-18) 7 18 3 (by omega) (r7 _ (hw _)) (r18 _ (hw _))
  have h2 := sig_nat (hw (j + 14)) (-17) (-19) 17 19 10 (by omega) (r17 _ (hw _)) (r19 _ (hw _))
  rw [show (3 : Int) = ((3 : Nat) : Int) from rfl, show (10 : Int) = ((10 : Nat) : Int) from rfl, h1, h2, add32, add32, add32]
  congr 1
  unfold sig0 sig1 m32
  omega
theorem nextW_get : ∀ w : List Nat, w.length = 16 → nextW w = (w.getD 0 0 + sig0 (w.getD 1 0) + w.getD 9 0 + sig1 (w.getD 14 0)) % m32
  | [a0, a1, a2, a3, a4, a5, a6, a7, a8, a9, a10, a11, a12, a13, a14, a15], _ => rfl
theorem getD_drop (l : List Nat) (n i : Nat) : (l.drop n).getD i 0 = l.getD (n + i) 0 := by simp [List.getD_eq_getElem?_getD, List.getElem?_drop]
theorem getD_left (l r : List Nat) (i : Nat) (h : i < l.length) : (l ++ r).getD i 0 = l.getD i 0 := by simp [List.getD_eq_getElem?_getD, List.getElem?_append_left h]
theorem all32.append {l : List Nat} (h : all32 l) {x : Nat} (hx : x < 4294967296) : all32 (l ++ [x]) := fun i => by
  by_cases hi : i < l.length
  · rw [getD_left _ _ _ hi]; exact h i
  · rw [List.getD_eq_getElem?_getD, List.getElem?_append_right (by omega)]
    by_cases e : i - l.length = 0
    · rw [e]; exact hx
    · rw [List.getElem?_eq_none (by simp; omega)]; simp
theorem ext_all (l : List Nat) (h : all32 l) (hl : l.length = 16) : ∀ n, all32 (ext l n)
  | 0 => h
  | n + 1 => all32.append (ext_all l h hl n) (by
    rw [nextW_get _ (by rw [List.length_drop, ext_len]; omega)]
    exact Nat.mod_lt _ (by decide))
theorem all32.zeros {l : List Nat} (h : all32 l) (n : Nat) : all32 (l ++ List.replicate n 0) := fun i => by
  by_cases hi : i < l.length
  · rw [getD_left _ _ _ hi]; exact h i
  · rw [List.getD_eq_getElem?_getD, List.getElem?_append_right (by omega), List.getElem?_replicate]
    split <;> simp
theorem nI_set (l : List Nat) (i x : Nat) : (nI l).set i (x : Int) = nI (l.set i x) := by simp only [nI, List.map_set]; rfl
theorem grow_nat (l : List Nat) (hl : l.length = 16) (h : all32 l) : ∀ k, k ≤ 48 → growW (nI (l ++ List.replicate 48 0)) k = nI (ext l k ++ List.replicate (48 - k) 0)
  | 0, _ => rfl
  | k + 1, hk => by
    have hlen := ext_len l k
    rw [growW, grow_nat l hl h k (by omega), more_nat _ ((ext_all l h hl k).zeros _) k, nI_set]
    congr 1
    rw [getD_left _ _ _ (by omega), getD_left _ _ _ (by omega), getD_left _ _ _ (by omega), getD_left _ _ _ (by omega)]
    rw [List.set_append_right _ _ (by omega), show 16 + k - (ext l k).length = 0 from by omega, show 48 - k = (48 - (k + 1)) + 1 from by omega, List.replicate_succ, List.set_cons_zero, ext, List.append_assoc, List.singleton_append]
    congr 2
    rw [nextW_get _ (by rw [List.length_drop]; omega), getD_drop, getD_drop, getD_drop, getD_drop]
    rfl
def wd (l : List Nat) (i : Nat) : Nat := l.getD (4 * i) 0 * 16777216 + l.getD (4 * i + 1) 0 * 65536 + l.getD (4 * i + 2) 0 * 256 + l.getD (4 * i + 3) 0
theorem words4_snoc : ∀ (i : Nat) (l : List Nat), 4 * (i + 1) ≤ l.length → words4 (i + 1) l = words4 i l ++ [wd l i]
  | 0, a :: b :: c :: d :: l, _ => rfl
  | i + 1, a :: b :: c :: d :: l, h => by
    have := words4_snoc i l (by simp at h; omega)
    change (a * 16777216 + b * 65536 + c * 256 + d) :: words4 (i + 1) l = (a * 16777216 + b * 65536 + c * 256 + d) :: words4 i l ++ [_]
    rw [this, List.cons_append]
    congr 3
  | _, [], h => by simp at h
  | _, [_], h => by simp at h; omega
  | _, [_, _], h => by simp at h; omega
  | _, [_, _, _], h => by simp at h; omega
theorem words4_len : ∀ (i : Nat) (l : List Nat), 4 * i ≤ l.length → (words4 i l).length = i
  | 0, _, _ => rfl
  | i + 1, l, h => by rw [words4_snoc i l h, List.length_append, words4_len i l (by omega)]; rfl
theorem byte_in {x c : Nat} (hx : x < 16777216) (hc : c < 256) : byteIn (x : Int) (c : Int) = ((x * 256 + c : Nat) : Int) := by
  unfold byteIn
  rw [show (8 : Int) = ((8 : Nat) : Int) from rfl, shl32 _ _ (by omega), wrap32, bitI_nat _ _ _ _ _ (by simp only [kmax]; omega) (by simp only [kmax]; omega), Nat.mod_eq_of_lt (by omega), Nat.mod_eq_of_lt (by omega)]
  congr 1
  have := Nat.shiftLeft_add_eq_or_of_lt (b := c) (i := 8) (by omega) x
  rw [Nat.shiftLeft_eq] at this
  exact this.symm
theorem atI_set (l : List Int) (i : Nat) (x : Int) (h : i < l.length) : atI (l.set i x) i = x := by simp [atI, List.getD_eq_getElem?_getD, h]
theorem fill_nat (l : List Nat) (hl : l.length = 64) (hb : ∀ i, l.getD i 0 < 256) : ∀ i, i ≤ 16 → fillW (nI l) (4 * i) = nI (words4 i l ++ List.replicate (64 - i) 0)
  | 0, _ => rfl
  | i + 1, hi => by
    have hw := words4_len i l (by omega)
    have h0 := fill_nat l hl hb i (by omega)
    have hlen : (fillW (nI l) (4 * i)).length = 64 := fillW_len _ _
    have hat : atI (fillW (nI l) (4 * i)) i = ((0 : Nat) : Int) := by
      rw [h0, atI_nI, List.getD_eq_getElem?_getD, List.getElem?_append_right (by omega), List.getElem?_replicate]
      split <;> rfl
    have e0 := hb (4 * i)
    have e1 := hb (4 * i + 1)
    have e2 := hb (4 * i + 2)
    have e3 := hb (4 * i + 3)
    rw [show 4 * (i + 1) = 4 * i + 1 + 1 + 1 + 1 from by omega]
    simp only [fillW]
    rw [show (4 * i) / 4 = i from by omega, show (4 * i + 1) / 4 = i from by omega, show (4 * i + 1 + 1) / 4 = i from by omega, show (4 * i + 1 + 1 + 1) / 4 = i from by omega]
    simp only [List.set_set, atI_nI, hat]
    rw [atI_set _ _ _ (by rw [hlen]; omega), atI_set _ _ _ (by rw [hlen]; omega), atI_set _ _ _ (by rw [hlen]; omega)]
    rw [byte_in (by omega) e0, byte_in (by omega) e1, byte_in (by omega) e2, byte_in (by omega) e3, h0, nI_set]
    congr 1
    have ev : (((0 * 256 + l.getD (4 * i) 0) * 256 + l.getD (4 * i + 1) 0) * 256 + l.getD (4 * i + 1 + 1) 0) * 256 + l.getD (4 * i + 1 + 1 + 1) 0 = wd l i := by
      unfold wd
      rw [show 4 * i + 1 + 1 + 1 = 4 * i + 3 from rfl, show 4 * i + 1 + 1 = 4 * i + 2 from rfl]
      omega
    rw [ev, List.set_append_right _ _ (by omega), hw, Nat.sub_self, show 64 - i = (64 - (i + 1)) + 1 from by omega, List.replicate_succ, List.set_cons_zero, words4_snoc i l (by omega), List.append_assoc, List.singleton_append]
end Go.Proofs.Ae
namespace Go.Proofs.Ae
def bytesB (l : List Nat) : Prop := ∀ i, l.getD i 0 < 256
theorem bytesB.drop {l : List Nat} (h : bytesB l) (n : Nat) : bytesB (l.drop n) := fun i => by rw [getD_drop]; exact h _
theorem bytesB.take {l : List Nat} (h : bytesB l) (n : Nat) : bytesB (l.take n) := fun i => by
  rw [List.getD_eq_getElem?_getD, List.getElem?_take]
  split
  · rw [← List.getD_eq_getElem?_getD]; exact h i
  · simp
theorem words_all {l : List Nat} (h : bytesB l) : ∀ i, 4 * i ≤ l.length → all32 (words4 i l)
  | 0, _ => fun i => by simp [words4]
  | i + 1, hi => by
    rw [words4_snoc i l hi]
    refine (words_all h i (by omega)).append ?_
    have e0 := h (4 * i)
    have e1 := h (4 * i + 1)
    have e2 := h (4 * i + 2)
    have e3 := h (4 * i + 3)
    unfold wd; omega
theorem spread_nat (l : List Nat) (hl : l.length = 64) (hb : bytesB l) : spreadW (nI l) = nI (ext (words4 16 l) 48) := by
  rw [spreadW, show 64 = 4 * 16 from rfl, fill_nat l hl hb 16 (Nat.le_refl _), grow_nat _ (words4_len 16 l (by omega)) (words_all hb 16 (by omega)) 48 (Nat.le_refl _)]
  simp
theorem addS_nat (s t : S8) : addW (nI (s8L s)) (nI (s8L t)) 8 = nI (s8L (addS s t)) := by
  obtain ⟨a, b, c, d, e, f, g, h⟩ := s
  obtain ⟨a', b', c', d', e', f', g', h'⟩ := t
  have key : addW (nI (s8L ⟨a, b, c, d, e, f, g, h⟩)) (nI (s8L ⟨a', b', c', d', e', f', g', h'⟩)) 8 =
    [IntKind.u32.wrap ((a : Int) + (a' : Int)), IntKind.u32.wrap ((b : Int) + (b' : Int)), IntKind.u32.wrap ((c : Int) + (c' : Int)), IntKind.u32.wrap ((d : Int) + (d' : Int)), IntKind.u32.wrap ((e : Int) + (e' : Int)), IntKind.u32.wrap ((f : Int) + (f' : Int)), IntKind.u32.wrap ((g : Int) + (g' : Int)), IntKind.u32.wrap ((h : Int) + (h' : Int))] := rfl
  rw [key]
  simp only [add32]
  rfl
theorem kL_nI : kL = nI kSha := rfl
theorem chg_nat (s : S8) (hs : s.ok) (l : List Nat) (hl : l.length = 64) (hb : bytesB l) : chgW (nI (s8L s)) (nI l) = nI (s8L (compress s l)) := by
  have hw := words4_len 16 l (by omega)
  have h1 := rounds8_eq (words4 16 l) kSha hw 64 s 64 0 rfl (by decide)
  have h2 : rndN kSha (ext (words4 16 l) 48) s 64 = rndN kSha (ext (words4 16 l) 64) s 64 := rndN_congr _ _ _ _ 64 fun i hi => (ext_get _ 48 64 i (by omega) (by omega)).symm
  have hk : kSha.length = 64 := rfl
  rw [List.drop_zero, hk] at h1
  have h3 : rounds8 kSha (words4 16 l) s = rndN kSha (ext (words4 16 l) 64) s 64 := by
    rw [show (ext (words4 16 l) 0).drop 0 = words4 16 l from List.drop_zero] at h1
    exact h1
  rw [chgW, spread_nat l hl hb, kL_nI, roundsW_nat _ _ s hs, h2, addS_nat, ← h3]
  rfl
theorem addS_ok (s t : S8) : (addS s t).ok := ⟨Nat.mod_lt _ (by decide), Nat.mod_lt _ (by decide), Nat.mod_lt _ (by decide), Nat.mod_lt _ (by decide), Nat.mod_lt _ (by decide), Nat.mod_lt _ (by decide), Nat.mod_lt _ (by decide), Nat.mod_lt _ (by decide)⟩
theorem nI_take (l : List Nat) (n : Nat) : (nI l).take n = nI (l.take n) := by simp [nI, List.map_take]
theorem nI_drop (l : List Nat) (n : Nat) : (nI l).drop n = nI (l.drop n) := by simp [nI, List.map_drop]
theorem nI_append (l m : List Nat) : nI (l ++ m) = nI l ++ nI m := by simp [nI]
def blocksG (f : S8 → List Nat → S8) : Nat → List Nat → S8 → S8
  | 0, _, s => s
  | n + 1, l, s => blocksG f n (l.drop 64) (f s (l.take 64))
theorem blocksG_succ (f : S8 → List Nat → S8) (n : Nat) (l : List Nat) (s : S8) : blocksG f (n + 1) l s = blocksG f n (l.drop 64) (f s (l.take 64)) := rfl
def hblocksG (f : List Int → List Int → List Int) : Nat → List Int → List Int → List Int × List Int
  | 0, ws, l => (ws, l)
  | n + 1, ws, l => hblocksG f n (f ws (l.take 64)) (l.drop 64)
theorem blocksG_nat (f : S8 → List Nat → S8) (g : List Int → List Int → List Int) (hg : ∀ s l, s.ok → l.length = 64 → bytesB l → g (nI (s8L s)) (nI l) = nI (s8L (f s l))) (hf : ∀ s l, (f s l).ok) :
    ∀ (n : Nat) (l : List Nat) (s : S8), s.ok → bytesB l → 64 * n ≤ l.length → hblocksG g n (nI (s8L s)) (nI l) = (nI (s8L (blocksG f n l s)), nI (l.drop (64 * n)))
  | 0, l, s, _, _, _ => rfl
  | n + 1, l, s, hs, hb, hl => by
    have h1 := hg s (l.take 64) hs (by rw [List.length_take]; omega) (hb.take _)
    have h2 := blocksG_nat f g hg hf n (l.drop 64) (f s (l.take 64)) (hf _ _) (hb.drop _) (by rw [List.length_drop]; omega)
    rw [hblocksG, nI_take, h1, nI_drop, h2, blocksG_succ, List.drop_drop, show 64 + 64 * n = 64 * (n + 1) from by omega]
theorem blocksG_ok (f : S8 → List Nat → S8) (hf : ∀ s l, (f s l).ok) : ∀ (n : Nat) (l : List Nat) (s : S8), s.ok → (blocksG f n l s).ok
  | 0, l, s, h => h
  | n + 1, l, s, h => blocksG_ok f hf n _ _ (hf _ _)
theorem compress_ok (s : S8) (l : List Nat) : (compress s l).ok := addS_ok _ _
theorem hfin_app : ∀ (n : Nat) (ws D T : List Int), D.length = n → hfin ws (D ++ T) = hfin (hfin ws D).1 ((hfin ws D).2 ++ T) := by
  intro n
  induction n using Nat.strongRecOn with
  | _ n ih =>
    intro ws D T hn
    by_cases h : 64 ≤ D.length
    · rw [hfin_step ws (D ++ T) (by rw [List.length_append]; omega), hfin_step ws D h, List.take_append_of_le_length h, List.drop_append_of_le_length h]
      exact ih (D.length - 64) (by omega) _ _ _ (by rw [List.length_drop])
    · rw [hfin_end ws D (by omega)]
theorem b4_nat {x : Nat} (hx : x < 4294967296) : b4 (x : Int) = nI (be 4 x) := by
  unfold b4
  rw [show (24 : Int) = ((24 : Nat) : Int) from rfl, show (16 : Int) = ((16 : Nat) : Int) from rfl, show (8 : Int) = ((8 : Nat) : Int) from rfl, shr32 _ _ (by omega), shr32 _ _ (by omega), shr32 _ _ (by omega), wrap8, wrap8, wrap8, wrap8]
  have : be 4 x = [Nat.shiftRight x 24 % 256, Nat.shiftRight x 16 % 256, Nat.shiftRight x 8 % 256, Nat.shiftRight x 0 % 256] := rfl
  rw [this, show x.shiftRight 24 = x / 2 ^ 24 from Nat.shiftRight_eq_div_pow x 24, show x.shiftRight 16 = x / 2 ^ 16 from Nat.shiftRight_eq_div_pow x 16, show x.shiftRight 8 = x / 2 ^ 8 from Nat.shiftRight_eq_div_pow x 8]
  rfl
theorem out_nat (s : S8) (hs : s.ok) : outW (nI (s8L s)) 8 = nI ((s8L s).flatMap (be 4)) := by
  obtain ⟨a, b, c, d, e, f, g, h⟩ := s
  obtain ⟨ha, hb, hc, hd, he, hf, hg, hh⟩ := hs
  simp only at ha hb hc hd he hf hg hh
  have key : outW (nI (s8L ⟨a, b, c, d, e, f, g, h⟩)) 8 = b4 (a : Int) ++ b4 (b : Int) ++ b4 (c : Int) ++ b4 (d : Int) ++ b4 (e : Int) ++ b4 (f : Int) ++ b4 (g : Int) ++ b4 (h : Int) := rfl
  rw [key, b4_nat ha, b4_nat hb, b4_nat hc, b4_nat hd, b4_nat he, b4_nat hf, b4_nat hg, b4_nat hh]
  simp only [← nI_append]
  congr 1
end Go.Proofs.Ae
namespace Go.Proofs.Ae
theorem hblocks_G : ∀ (n : Nat) (ws l : List Int), hblocks n ws l = hblocksG chgW n ws l
  | 0, ws, l => rfl
  | n + 1, ws, l => hblocks_G n (chgW ws (l.take 64)) (l.drop 64)
theorem bytesB.of_mem {l : List Nat} (h : ∀ x ∈ l, x < 256) : bytesB l := fun i => by
  rw [List.getD_eq_getElem?_getD]
  cases hg : l[i]? with
  | none => simp
  | some x => exact h x (List.mem_of_getElem? hg)
theorem bytesB.mem {l : List Nat} (h : bytesB l) : ∀ x ∈ l, x < 256 := fun x hx => by
  obtain ⟨i, hi⟩ := List.getElem?_of_mem hx
  have := h i
  rw [List.getD_eq_getElem?_getD, hi] at this
  exact this
theorem be_mem (n x : Nat) : ∀ y ∈ be n x, y < 256 := fun y hy => by
  simp only [be, List.mem_map] at hy
  obtain ⟨i, _, rfl⟩ := hy
  exact Nat.mod_lt _ (by omega)
theorem lb_nat (n q : Nat) (hn : n < 1152921504606846976) (hq : q ≤ 64) : lb (n : Int) q = ((Nat.shiftRight (n * 8) q % 256 : Nat) : Int) := by
  unfold lb
  have h1 : IntKind.u64.wrap (n : Int) = (n : Int) := wrap_in .u64 n (by simp only [kmax]; omega)
  have h2 : shlI .u64 (n : Int) 3 = ((n * 8 : Nat) : Int) := by
    change wrapN .u64 (n * 2 ^ (min 3 64)) = _
    rw [wrapN_eq, show min 3 64 = 3 from rfl]
    exact wrap_in .u64 _ (by simp only [kmax]; omega)
  have h3 : shrI .u64 ((n * 8 : Nat) : Int) (q : Int) = ((n * 8 / 2 ^ q : Nat) : Int) := by
    change Int.ofNat (n * 8 / 2 ^ (min q 64)) = _
    rw [show min q 64 = q from by omega]; rfl
  rw [h1, h2, h3, wrap8, show (n * 8).shiftRight q = n * 8 / 2 ^ q from Nat.shiftRight_eq_div_pow _ _]
theorem lenB_nat (n : Nat) (hn : n < 1152921504606846976) : lenB (n : Int) 8 = nI (be 8 (n * 8)) := by
  have h1 : lenB (n : Int) 8 = [lb n 56, lb n 48, lb n 40, lb n 32, lb n 24, lb n 16, lb n 8, lb n 0] := rfl
  have h2 : be 8 (n * 8) = [Nat.shiftRight (n * 8) 56 % 256, Nat.shiftRight (n * 8) 48 % 256, Nat.shiftRight (n * 8) 40 % 256, Nat.shiftRight (n * 8) 32 % 256, Nat.shiftRight (n * 8) 24 % 256, Nat.shiftRight (n * 8) 16 % 256, Nat.shiftRight (n * 8) 8 % 256, Nat.shiftRight (n * 8) 0 % 256] := rfl
  rw [h1, h2, lb_nat n 56 hn (by omega), lb_nat n 48 hn (by omega), lb_nat n 40 hn (by omega), lb_nat n 32 hn (by omega), lb_nat n 24 hn (by omega), lb_nat n 16 hn (by omega), lb_nat n 8 hn (by omega), lb_nat n 0 hn (by omega)]
  rfl
def shaB (D : List Nat) : List Nat := (s8L (blocksG compress ((padSha D).length / 64) (padSha D) h8)).flatMap (be 4)
theorem padSha_len (D : List Nat) : (padSha D).length % 64 = 0 := by
  simp only [padSha, List.length_append, List.length_cons, List.length_nil, List.length_replicate]
  have : (be 8 (D.length * 8)).length = 8 := rfl
  omega
theorem padSha_bytes (D : List Nat) (h : bytesB D) : bytesB (padSha D) := bytesB.of_mem fun x hx => by
  simp only [padSha, List.mem_append, List.mem_singleton, List.mem_replicate] at hx
  rcases hx with ((hx | hx) | hx) | hx
  · exact h.mem x hx
  · omega
  · omega
  · exact be_mem _ _ x hx
theorem nI_repl (n : Nat) : nI (List.replicate n 0) = List.replicate n 0 := by simp [nI]
theorem startW_nI : startW = nI (s8L h8) := rfl
theorem h8_ok : h8.ok := ⟨by decide, by decide, by decide, by decide, by decide, by decide, by decide, by decide⟩
theorem sha_nat (D : List Nat) (hb : bytesB D) (hD : D.length < 1152921504606846976) : sumW (hfin startW (nI D)).1 (hfin startW (nI D)).2 ((D.length : Nat) : Int) = nI (shaB D) := by
  have hr : (hfin startW (nI D)).2.length = D.length % 64 := by rw [hfin_rest _ _ _ rfl, nI_len]
  have hz : zn (hfin startW (nI D)).2.length = (119 - D.length % 64) % 64 := by rw [hr]; unfold zn; omega
  have hpad : nI D ++ ([128] ++ List.replicate ((119 - D.length % 64) % 64) 0 ++ lenB ((D.length : Nat) : Int) 8) = nI (padSha D) := by
    rw [lenB_nat _ hD, padSha, nI_append, nI_append, nI_append, nI_repl]
    simp only [List.append_assoc]
    rfl
  unfold sumW
  rw [padS, hz]
  have happ := hfin_app _ startW (nI D) ([128] ++ List.replicate ((119 - D.length % 64) % 64) 0 ++ lenB ((D.length : Nat) : Int) 8) rfl
  rw [show (hfin startW (nI D)).2 ++ [128] ++ List.replicate ((119 - D.length % 64) % 64) 0 ++ lenB ((D.length : Nat) : Int) 8 = (hfin startW (nI D)).2 ++ ([128] ++ List.replicate ((119 - D.length % 64) % 64) 0 ++ lenB ((D.length : Nat) : Int) 8) from by simp only [List.append_assoc], ← happ, hpad]
  have hl := padSha_len D
  unfold hfin
  rw [hblocks_G, nI_len, startW_nI, blocksG_nat compress chgW (fun s l hs h1 h2 => chg_nat s hs l h1 h2) compress_ok _ _ _ h8_ok (padSha_bytes D hb) (by omega)]
  exact out_nat _ (blocksG_ok compress compress_ok _ _ _ h8_ok)
end Go.Proofs.Ae
namespace Go.Proofs.Ae
theorem unW_eq (own : List Int) (x : Int) : ∀ j, j ≤ own.length → unW own x j = hfin startW ((own.take j).map fun a => xor8 a x)
  | 0, _ => by
    rw [List.take_zero, List.map_nil, hfin_end _ _ (by simp)]; rfl
  | j + 1, h => by
    have hj : j < own.length := by omega
    have ht : own.take (j + 1) = own.take j ++ [atI own j] := by
      rw [List.take_add_one, List.getElem?_eq_getElem hj]
      simp [atI, List.getD_eq_getElem?_getD, List.getElem?_eq_getElem hj]
    rw [ht, List.map_append, List.map_cons, List.map_nil, hfin_app _ _ _ _ rfl, ← unW_eq own x j (by omega), unW]
theorem xor8_nat {a x : Nat} (ha : a < 256) (hx : x < 256) : xor8 (a : Int) (x : Int) = ((Nat.xor a x : Nat) : Int) := bitI_nat _ _ _ _ _ (by simp only [kmax]; omega) (by simp only [kmax]; omega)
theorem xorL_nat (x : Nat) (hx : x < 256) : ∀ (l : List Nat), (∀ y ∈ l, y < 256) → (nI l).map (fun a => xor8 a (x : Int)) = nI (l.map fun a => Nat.xor a x)
  | [], _ => rfl
  | y :: l, h => by
    have h1 := xorL_nat x hx l fun z hz => h z (List.mem_cons_of_mem _ hz)
    have h2 := xor8_nat (h y (List.mem_cons_self ..)) hx
    change xor8 (y : Int) (x : Int) :: (nI l).map (fun a => xor8 a (x : Int)) = ((Nat.xor y x : Nat) : Int) :: nI (l.map fun a => Nat.xor a x)
    rw [h1, h2]
theorem bytesB.append {l m : List Nat} (h : bytesB l) (k : bytesB m) : bytesB (l ++ m) := bytesB.of_mem fun x hx => by
  rcases List.mem_append.1 hx with hx | hx
  · exact h.mem x hx
  · exact k.mem x hx
theorem bytesB.xor {l : List Nat} (h : bytesB l) {x : Nat} (hx : x < 256) : bytesB (l.map fun a => Nat.xor a x) := bytesB.of_mem fun y hy => by
  simp only [List.mem_map] at hy
  obtain ⟨a, ha, rfl⟩ := hy
  exact Nat.xor_lt_two_pow (n := 8) (h.mem a ha) hx
theorem shaB_bytes (D : List Nat) : bytesB (shaB D) := bytesB.of_mem fun y hy => by
  simp only [shaB, List.mem_flatMap] at hy
  obtain ⟨a, _, hy⟩ := hy
  exact be_mem _ _ y hy
theorem shaB_len (D : List Nat) : (shaB D).length = 32 := by
  unfold shaB
  generalize blocksG compress _ _ _ = s
  obtain ⟨a, b, c, d, e, f, g, h⟩ := s
  rfl
theorem unF_nat (own m : List Nat) (x : Nat) (hx : x < 256) (ho : own.length = 64) (hob : bytesB own) (hm : bytesB m) (hl : m.length ≤ 1000000000000) : unF (nI own) (x : Int) (nI m) = nI (shaB ((own.map fun a => Nat.xor a x) ++ m)) := by
  have h1 : unW (nI own) (x : Int) 64 = hfin startW (nI (own.map fun a => Nat.xor a x)) := by
    rw [unW_eq _ _ 64 (by rw [nI_len]; omega), List.take_of_length_le (by rw [nI_len]; omega), xorL_nat x hx own hob.mem]
  have h2 : hfin (unW (nI own) (x : Int) 64).1 ((unW (nI own) (x : Int) 64).2 ++ nI m) = hfin startW (nI ((own.map fun a => Nat.xor a x) ++ m)) := by
    rw [h1, nI_append, hfin_app _ startW _ _ rfl]
  unfold unF
  rw [h2, ← sha_nat _ ((hob.xor hx).append hm) (by rw [List.length_append, List.length_map]; omega)]
  congr 2
  rw [List.length_append, List.length_map, nI_len, ho]
def hbaseB (s : List Nat) : List Nat := bif Nat.ble s.length 64 then s else shaB s
def hownB (s : List Nat) : List Nat := hbaseB s ++ List.replicate (64 - (hbaseB s).length) 0
def hpadB (s : List Nat) (x : Nat) : List Nat := (hownB s).map fun c => Nat.xor c x
def hmacB (s m : List Nat) : List Nat := shaB (hpadB s 92 ++ shaB (hpadB s 54 ++ m))
theorem base_nat (s : List Nat) (hb : bytesB s) (hl : s.length ≤ 1000000000000) : baseW (nI s) = nI (hbaseB s) := by
  unfold baseW hbaseB
  by_cases h : s.length ≤ 64
  · rw [if_pos (by rw [nI_len]; exact h), Nat.ble_eq_true_of_le h]; rfl
  · have : Nat.ble s.length 64 = false := by
      cases hb : Nat.ble s.length 64 with
      | false => rfl
      | true => exact absurd (Nat.le_of_ble_eq_true hb) h
    rw [if_neg (by rw [nI_len]; exact h), this, cond_false, shaW, nI_len, sha_nat s hb (by omega)]
theorem hbase_bytes (s : List Nat) (hb : bytesB s) : bytesB (hbaseB s) := by
  unfold hbaseB
  cases Nat.ble s.length 64
  · exact shaB_bytes s
  · exact hb
theorem hbase_len (s : List Nat) : (hbaseB s).length ≤ 64 := by
  unfold hbaseB
  cases h : Nat.ble s.length 64 with
  | false => rw [cond_false, shaB_len]; omega
  | true => exact Nat.le_of_ble_eq_true h
theorem hown_len (s : List Nat) : (hownB s).length = 64 := by
  have := hbase_len s
  rw [hownB, List.length_append, List.length_replicate]; omega
theorem hown_bytes (s : List Nat) (hb : bytesB s) : bytesB (hownB s) := (hbase_bytes s hb).append (bytesB.of_mem fun x hx => by have := (List.mem_replicate.1 hx).2; omega)
theorem pad_nat (s : List Nat) (hb : bytesB s) (hl : s.length ≤ 1000000000000) : padW (nI s) = nI (hownB s) := by
  rw [padW, base_nat s hb hl, hownB, nI_append, nI_repl, nI_len]
theorem mac_nat (s m : List Nat) (hb : bytesB s) (hl : s.length ≤ 1000000000000) (hm : bytesB m) (hml : m.length ≤ 1000000000000) : macW (nI s) (nI m) = nI (hmacB s m) := by
  unfold macW
  rw [pad_nat s hb hl]
  have h1 := unF_nat (hownB s) m 54 (by omega) (hown_len s) (hown_bytes s hb) hm hml
  have h2 := unF_nat (hownB s) (shaB (hpadB s 54 ++ m)) 92 (by omega) (hown_len s) (hown_bytes s hb) (shaB_bytes _) (by rw [shaB_len]; omega)
  rw [show (54 : Int) = ((54 : Nat) : Int) from rfl, show (92 : Int) = ((92 : Nat) : Int) from rfl, h1]
  exact h2
end Go.Proofs.Ae
namespace Go.Proofs.Ae
open Go.Proofs
noncomputable def rrot_0 : Array Oper := opsAt Tryz.f191 [0]
noncomputable def rrot_1 : Array Oper := opsAt Tryz.f191 [1, 0]
theorem rrot_body : Tryz.f191.body = some (.seq (.region 0 rrot_0 false) (.seq (.region 1 rrot_1 false) .ret)) := by kernel_rfl
noncomputable def rsh_0 : Array Oper := opsAt Tryz.f202 [0]
noncomputable def rsh_1 : Array Oper := opsAt Tryz.f202 [1, 0]
theorem rsh_body : Tryz.f202.body = some (.seq (.region 0 rsh_0 false) (.seq (.region 1 rsh_1 false) .ret)) := by kernel_rfl
set_option maxHeartbeats 4000000
def rrV (x : Int) (n : Nat) : Int := bitI .u32 Nat.lor (· ||| ·) (shrI .u32 x (n : Int)) (shlI .u32 x (IntKind.u64.wrap (32 - (n : Int))))
theorem rrot_C (x : Int) (n : Nat) (hn : n ≤ 32) (s : St) : CP tbH3 191 [.int .u32 x, .int .u64 (n : Int)] s (fun v s' => v = .int .u32 (rrV x n) ∧ s' = keepMods s (bare s)) := by
  refine CP.of rfl (by kernel_rfl) rrot_body (Nat.le_of_ble_eq_true rfl) ?_
  have e0 : tmA (argsTr [.int .u32 x, .int .u64 (n : Int)] 0 .nil) 0 = .int .u32 x := rfl
  have e1 : tmA (argsTr [.int .u32 x, .int .u64 (n : Int)] 0 .nil) 1 = .int .u64 (n : Int) := rfl
  generalize argsTr [.int .u32 x, .int .u64 (n : Int)] 0 .nil = t0 at e0 e1 ⊢
  have hw : IntKind.u64.wrap (32 - (n : Int)) = ((32 - n : Nat) : Int) := by
    rw [show (32 : Int) - (n : Int) = ((32 - n : Nat) : Int) from by omega]
    exact wrap_in .u64 _ (by simp only [kmax]; omega)
  have h2 : negB (IntKind.u64.wrap (32 - (n : Int))) = false := by rw [hw]; rfl
  refine W.seq (W.region ?_)
  refine WR.val rfl (by simp only [push_cast, tbH3_ty, Nat.reduceEqDiff, ↓reduceIte]; rfl) (WR.nil ?_)
  refine W.seq (W.region ?_)
  iterate 2 refine WR.val rfl (by simp only [push_cast, tbH3_ty, Nat.reduceEqDiff, ↓reduceIte, e0, e1]; rfl) ?_
  refine WR.val rfl (by simp only [push_cast, tbH3_ty, Nat.reduceEqDiff, ↓reduceIte]; rw [bin_shr _ _ _ _ _ _ _ _ _ (negB_nat n)]; rfl) ?_
  iterate 3 refine WR.val rfl (by simp only [push_cast, tbH3_ty, Nat.reduceEqDiff, ↓reduceIte, e0, e1]; rfl) ?_
  refine WR.val rfl (by simp only [push_cast, tbH3_ty, Nat.reduceEqDiff, ↓reduceIte]; rw [bin_shl _ _ _ _ _ _ _ _ _ h2]; rfl) ?_
  iterate 2 refine WR.val rfl (by simp only [push_cast, tbH3_ty, Nat.reduceEqDiff, ↓reduceIte]; rfl) ?_
  refine WR.nil (W.ret ⟨.inr rfl, rfl, [.int .u32 (rrV x n)], ?_, rfl, rfl⟩)
  rw [show Tryz.f191.results.toList = [.tmp 4] from rfl, res1]
  simp only [push_cast, tbH3_ty, Nat.reduceEqDiff, ↓reduceIte]
  rfl
theorem rsh_C (x : Int) (n : Nat) (s : St) : CP tbH3 202 [.int .u32 x, .int .u64 (n : Int)] s (fun v s' => v = .int .u32 (shrI .u32 x (n : Int)) ∧ s' = keepMods s (bare s)) := by
  refine CP.of rfl (by kernel_rfl) rsh_body (Nat.le_of_ble_eq_true rfl) ?_
  have e0 : tmA (argsTr [.int .u32 x, .int .u64 (n : Int)] 0 .nil) 0 = .int .u32 x := rfl
  have e1 : tmA (argsTr [.int .u32 x, .int .u64 (n : Int)] 0 .nil) 1 = .int .u64 (n : Int) := rfl
  generalize argsTr [.int .u32 x, .int .u64 (n : Int)] 0 .nil = t0 at e0 e1 ⊢
  refine W.seq (W.region ?_)
  refine WR.val rfl (by simp only [push_cast, tbH3_ty, Nat.reduceEqDiff, ↓reduceIte]; rfl) (WR.nil ?_)
  refine W.seq (W.region ?_)
  iterate 2 refine WR.val rfl (by simp only [push_cast, tbH3_ty, Nat.reduceEqDiff, ↓reduceIte, e0, e1]; rfl) ?_
  refine WR.val rfl (by simp only [push_cast, tbH3_ty, Nat.reduceEqDiff, ↓reduceIte]; rw [bin_shr _ _ _ _ _ _ _ _ _ (negB_nat n)]; rfl) ?_
  refine WR.val rfl (by simp only [push_cast, tbH3_ty, Nat.reduceEqDiff, ↓reduceIte]; rfl) ?_
  refine WR.nil (W.ret ⟨.inr rfl, rfl, [.int .u32 (shrI .u32 x (n : Int))], ?_, rfl, rfl⟩)
  rw [show Tryz.f202.results.toList = [.tmp 4] from rfl, res1]
  simp only [push_cast, tbH3_ty, Nat.reduceEqDiff, ↓reduceIte]
theorem rrV_nat {x n : Nat} (hx : x < 4294967296) (hn : n ≤ 32) : rrV (x : Int) n = ((rotr x n : Nat) : Int) := by
  have hm : x * 2 ^ (32 - n) % 4294967296 ≤ kmax .u32 := by have := Nat.mod_lt (x * 2 ^ (32 - n)) (show 4294967296 > 0 by omega); simp only [kmax]; omega
  have hd : x / 2 ^ n ≤ kmax .u32 := by have := Nat.div_le_self x (2 ^ n); simp only [kmax]; omega
  have hw : IntKind.u64.wrap (32 - (n : Int)) = ((32 - n : Nat) : Int) := by
    rw [show (32 : Int) - (n : Int) = ((32 - n : Nat) : Int) from by omega]
    exact wrap_in .u64 _ (by simp only [kmax]; omega)
  rw [rrV, hw, shl32 _ _ (by omega), shr32 _ _ hn, bitI_nat _ _ _ _ _ hd hm]
  unfold rotr m32
  rw [show x.shiftRight n = x / 2 ^ n from Nat.shiftRight_eq_div_pow x n, show x.shiftLeft (32 - n) = x * 2 ^ (32 - n) from Nat.shiftLeft_eq x _]
  rfl
end Go.Proofs.Ae
namespace Go.Proofs.Ae
open Go.Proofs
inductive BW (n0 : Nat) (s : St) : Value → List Int → Prop
  | nil : BW n0 s (.slice none 0 0) []
  | at (b : Nat) (l : List Int) (hb : n0 ≤ b) (h : s.get b = some (.cells (u32s l) .grow)) : BW n0 s (.slice (some ⟨b, 0, none⟩) l.length (cap0 + 1)) l
theorem BW.alloc {n0 : Nat} {s : St} {v : Value} {l : List Int} (k : BW n0 s v l) (hok : s.Ok) (o : AObj) : BW n0 (s.alloc o) v l := by
  cases k with
  | nil => exact .nil
  | «at» b l hb hg => exact .at b l hb (by rw [St.get_alloc_ne _ _ _ (by have := hok _ (hdom_of hg); omega), hg])
theorem BW.form {n0 : Nat} {s : St} {v : Value} {l : List Int} (k : BW n0 s v l) : ∃ a cap, v = .slice a l.length cap := by
  cases k <;> exact ⟨_, _, rfl⟩
theorem appw_guard (x : Int) (len : Nat) (h : len + 1 ≤ 1000000000000) : (Nat.ble ((len + 1) * 4) 140737488355328 && allOne (u32s [x]) && Nat.ble 1 1 && Nat.ble 1 4 && Nat.beq (u32s [x]).length (1 * 1)) = true := by
  have h1 : Nat.ble ((len + 1) * 4) 140737488355328 = true := Nat.ble_eq_true_of_le (by omega)
  rw [h1, allOne_u32]; rfl
theorem appw_nc (s : St) (x : Int) : appendS s 1 4 none 0 0 1 (u32s [x]) = some (.slice (some ⟨s.next, 0, none⟩) 1 (cap0 + 1), s.alloc (.cells (u32s [x]) .grow)) := by
  unfold appendS
  rw [appw_guard x 0 (by omega)]
  have h0 : Nat.beq 1 0 = false := rfl
  have h2 : Nat.ble (0 + 1) 0 = false := rfl
  simp only [cond_true, h0, cond_false, ble_cap0, appendE, h2, oldCells, Nat.zero_mul, beq_00, Nat.zero_add, List.nil_append]
theorem appw_ac' (s : St) (b len cap : Nat) (c xs : List Value) (hc1 : Nat.ble cap0 cap = true) (hc2 : Nat.beq cap (cap0 + 1) = true)
    (hgd : (Nat.ble ((len + 1) * 4) 140737488355328 && allOne xs && Nat.ble 1 1 && Nat.ble 1 4 && Nat.beq xs.length (1 * 1)) = true)
    (h4 : putX c (0 + len * 1) xs = none) (h5 : takeX c (len * 1) = some c) (hg : s.get b = some (.cells c .grow)) :
    appendS s 1 4 (some ⟨b, 0, none⟩) len cap 1 xs = some (.slice (some ⟨s.next, 0, none⟩) (len + 1) cap, (s.upd b .dead).alloc (.cells (c ++ xs) .grow)) := by
  unfold appendS
  rw [hgd]
  have h0 : Nat.beq 1 0 = false := rfl
  simp only [cond_true, h0, cond_false, hc1, appendG, hc2]
  rw [hg]
  unfold appG
  simp only [h4, beq_00, cond_true, h5]
theorem ty267b : ∃ ti, tyT.get 267 = some ti ∧ ti.d = .int .u32 ∧ ti.size = 1 ∧ ti.bytes = 4 ∧ ti.zero.cells.toList = [.int .u32 0] := by
  have : (tyT.get 267).map (fun ti => (ti.d, ti.size, ti.bytes, ti.zero.cells.toList)) = some (.int .u32, 1, 4, [.int .u32 0]) := by kernel_rfl
  cases hg : tyT.get 267 with
  | none => rw [hg] at this; cases this
  | some ti =>
    rw [hg] at this
    simp only [Option.map_some, Option.some.injEq, Prod.mk.injEq] at this
    exact ⟨ti, rfl, this.1, this.2.1, this.2.2.1, this.2.2.2⟩
theorem ty291 : ∃ ti, tyT.get 291 = some ti ∧ ti.d = .slice 267 ∧ ti.size = 1 := tyR (by kernel_rfl)
theorem elem291 : elemA tyT (some 291) = tyT.get 267 := by
  obtain ⟨ti, h, hd, _⟩ := ty291
  simp only [elemA, h, hd]
theorem tyD291 : tyD tyT (some 291) = .slice 267 := by kernel_rfl
theorem bw1 (s : St) (x : Int) : buildSliceA s 1 [(0, .int .u32 x)] (tyT.get 267) = some (.val (.slice (some ⟨s.next, 0, none⟩) 1 1), s.alloc (.cells (u32s [x]) .exact)) := by
  obtain ⟨ti, t5, d5, z5, _, zz⟩ := ty267b
  rw [t5]
  simp only [buildSliceA, z5, zz]
  rfl
theorem appw_one (s : St) (v : Value) (l : List Int) (x : Int) {A : Nat → Prop} {s0 : St} (hF : Fm A s0 s) (hv : BW s0.next s v l) (hb : l.length + 1 ≤ 1000000000000) :
    ∃ v' s', builtinA tyT (s.alloc (.cells (u32s [x]) .exact)) .append [291, 291] [v, .slice (some ⟨s.next, 0, none⟩) 1 1] = some (.val v', s') ∧ Fm A s0 s' ∧ BW s0.next s' v' (l ++ [x]) := by
  obtain ⟨ti5, t5, d5, z5, y5, _⟩ := ty267b
  have hF1 := hF.alloc (.cells (u32s [x]) .exact)
  have hv1 := hv.alloc hF.ok (.cells (u32s [x]) .exact)
  have hc : cellsAt (s.alloc (.cells (u32s [x]) .exact)) ⟨s.next, 0, none⟩ (1 * 1) = some (u32s [x]) := by
    simp only [cellsAt, St.get_alloc_self, cellsOf]
    rfl
  generalize s.alloc (.cells (u32s [x]) .exact) = s1 at hF1 hv1 hc ⊢
  have key : ∀ a len cap v' s', v = .slice a len cap → appendS s1 1 4 a len cap 1 (u32s [x]) = some (v', s') → builtinA tyT s1 .append [291, 291] [v, .slice (some ⟨s.next, 0, none⟩) 1 1] = some (.val v', s') := by
    rintro a len cap v' s' rfl h
    unfold builtinA
    simp only [List.head?_cons, List.tail_cons, elem291, t5, tyD291, appendA, z5, y5]
    rw [hc]
    simp only [h]; rfl
  cases hv1 with
  | nil => exact ⟨_, _, key _ _ _ _ _ rfl (appw_nc s1 x), hF1.alloc _, .at s1.next [x] hF1.next (St.get_alloc_self _ _)⟩
  | «at» b l hbn h =>
    have hbl : b < s1.next := hF1.ok _ (hdom_of h)
    have h4 : putX (u32s l) (0 + l.length * 1) (u32s [x]) = none := by
      have := put_over (u32s l) (u32s [x]) (by simp [u32s])
      rw [u32s_len] at this
      rw [Nat.zero_add, Nat.mul_one]; exact this
    have h5 : takeX (u32s l) (l.length * 1) = some (u32s l) := by
      have := take_all (u32s l)
      rw [u32s_len] at this
      rw [Nat.mul_one]; exact this
    have h6 : u32s l ++ u32s [x] = u32s (l ++ [x]) := by simp [u32s]
    have ha := appw_ac' s1 b l.length _ (u32s l) (u32s [x]) ble_cap beq_cap1 (appw_guard x l.length hb) h4 h5 h
    rw [h6, show l.length + 1 = (l ++ [x]).length from by simp] at ha
    exact ⟨_, _, key _ _ _ _ _ rfl ha, (hF1.upd .dead (.inr hbn) hbl).alloc _, .at s1.next (l ++ [x]) hF1.next (St.get_alloc_self _ _)⟩
end Go.Proofs.Ae
namespace Go.Proofs.Ae
open Go.Proofs
noncomputable def rspr_0 : Array Oper := opsAt Tryz.f190 [0]
noncomputable def rspr_1 : Array Oper := opsAt Tryz.f190 [1, 0]
noncomputable def rspr_2 : Array Oper := opsAt Tryz.f190 [1, 1, 0, 0]
noncomputable def rspr_3 : Array Oper := opsAt Tryz.f190 [1, 1, 0, 1, 0, 0, 0, 0]
noncomputable def rspr_4 : Array Oper := opsAt Tryz.f190 [1, 1, 0, 1, 0, 0, 1, 0, 0, 0]
noncomputable def rspr_5 : Array Oper := opsAt Tryz.f190 [1, 1, 0, 1, 0, 0, 1, 0, 0, 1]
noncomputable def rspr_6 : Array Oper := opsAt Tryz.f190 [1, 1, 0, 1, 0, 0, 1, 1]
noncomputable def rspr_7 : Array Oper := opsAt Tryz.f190 [1, 1, 1, 0, 0]
noncomputable def rspr_8 : Array Oper := opsAt Tryz.f190 [1, 1, 1, 0, 1, 0, 0, 0, 0]
noncomputable def rspr_9 : Array Oper := opsAt Tryz.f190 [1, 1, 1, 0, 1, 0, 0, 1, 0, 0, 0]
noncomputable def rspr_10 : Array Oper := opsAt Tryz.f190 [1, 1, 1, 0, 1, 0, 0, 1, 0, 0, 1, 0]
noncomputable def rspr_11 : Array Oper := opsAt Tryz.f190 [1, 1, 1, 0, 1, 0, 0, 1, 0, 0, 1, 1, 0]
noncomputable def rspr_12 : Array Oper := opsAt Tryz.f190 [1, 1, 1, 0, 1, 0, 0, 1, 0, 0, 1, 1, 1, 0]
noncomputable def rspr_13 : Array Oper := opsAt Tryz.f190 [1, 1, 1, 0, 1, 0, 0, 1, 0, 0, 1, 1, 1, 1]
noncomputable def rspr_14 : Array Oper := opsAt Tryz.f190 [1, 1, 1, 0, 1, 0, 0, 1, 1]
noncomputable def rspr_15 : Array Oper := opsAt Tryz.f190 [1, 1, 1, 1, 0]
theorem rspr_body : Tryz.f190.body = some (.seq (.region 0 rspr_0 false) (.seq (.region 1 rspr_1 false) (.seq (.seq (.region 2 rspr_2 false) (.block 0 (.loop (.seq (.seq (.region 3 rspr_3 false) (.cond (.tmp 12) .skip (.exit 0))) (.seq (.block 1 (.seq (.region 5 rspr_4 true) (.region 6 rspr_5 false))) (.region 4 rspr_6 false)))))) (.seq (.seq (.region 7 rspr_7 false) (.block 2 (.loop (.seq (.seq (.region 8 rspr_8 false) (.cond (.tmp 53) .skip (.exit 2))) (.seq (.block 3 (.seq (.region 10 rspr_9 false) (.seq (.region 11 rspr_10 false) (.seq (.region 12 rspr_11 false) (.seq (.region 13 rspr_12 false) (.region 14 rspr_13 true)))))) (.region 9 rspr_14 false)))))) (.seq (.region 15 rspr_15 false) .ret))))) := by kernel_rfl
set_option maxHeartbeats 4000000
def rwd (bs : List Int) (n : Nat) : Int :=
  IntKind.u32.wrap (IntKind.u32.wrap (IntKind.u32.wrap (IntKind.u32.wrap (IntKind.u32.wrap (atI bs (4 * n)) * 16777216) + IntKind.u32.wrap (IntKind.u32.wrap (atI bs (4 * n + 1)) * 65536)) + IntKind.u32.wrap (IntKind.u32.wrap (atI bs (4 * n + 2)) * 256)) + IntKind.u32.wrap (atI bs (4 * n + 3)))
def rws (bs : List Int) : Nat → List Int
  | 0 => []
  | n + 1 => rws bs n ++ [rwd bs n]
theorem rws_len (bs : List Int) : ∀ n, (rws bs n).length = n
  | 0 => rfl
  | n + 1 => by simp [rws, rws_len bs n]
def keep10 : List Nat := [3, 4, 5, 11, 12, 13, 14, 15, 16, 17, 18, 19, 20, 21, 22, 23, 24, 25, 26, 27, 28, 29, 30, 31, 32, 33, 34, 35, 36, 37, 38, 39, 40, 41, 42, 43, 44, 45, 46, 47, 48, 49, 50, 51]
theorem rspr_words (sB : St) (hok : sB.Ok) (b o cap : Nat) (bs : List Int) (hl : bs.length = 64) (hB : BytesAt sB b o bs) (a0 : AA) (sA : St) (Q : AX → AA → St → Prop)
    (e0 : tmA a0.tm 0 = .slice (some ⟨b, o, none⟩) 64 cap) (e3 : tmA a0.tm 3 = .slice none 0 0) (e4 : tmA a0.tm 4 = .int .i64 0) (hF : Fm Nil0 (bare sB) sA)
    (k : ∀ tm s v, Keep keep10 a0.tm tm → tmA tm 3 = v → BW sB.next s v (rws bs 16) → Fm Nil0 (bare sB) s → Q .normal ⟨tm, a0.df, a0.rnd, a0.fid⟩ s) :
    W tbH3 (.block 0 (.loop (.seq (.seq (.region 3 rspr_3 false) (.cond (.tmp 12) .skip (.exit 0))) (.seq (.block 1 (.seq (.region 5 rspr_4 true) (.region 6 rspr_5 false))) (.region 4 rspr_6 false))))) a0 sA Q := by
  refine W.block (W.loop (fun m a s => ∃ (j : Nat) (tm : Tr Value) (v : Value), a = ⟨tm, a0.df, a0.rnd, a0.fid⟩ ∧ j + m = 16 ∧ tmA tm 3 = v ∧ tmA tm 4 = .int .i64 (j : Int) ∧ Keep keep10 a0.tm tm ∧ BW sB.next s v (rws bs j) ∧ Fm Nil0 (bare sB) s) ?_ 16 a0 sA ⟨0, a0.tm, _, rfl, rfl, e3, e4, Keep.refl _ _, .nil, hF⟩)
  rintro m a s ⟨j, tm, v, rfl, hm, f3, f4, hK, hW, hFs⟩
  have hokb : (bare sB).Ok := hok
  have f0 : tmA tm 0 = .slice (some ⟨b, o, none⟩) 64 cap := by rw [hK 0 (by decide), e0]
  refine W.seq (W.seq (W.region ?_))
  iterate 2 refine WR.val rfl (by simp only [push_cast, tbH3_ty, Nat.reduceEqDiff, ↓reduceIte, f4]; rfl) ?_
  refine WR.nil (W.cond (b := decide ((j : Int) < 16)) (by simp only [push_cast, tbH3_ty, Nat.reduceEqDiff, ↓reduceIte]) (fun hb => W.skip ?_) (fun hb => W.exit ?_))
  · have hj : j < 16 := by have := of_decide_eq_true hb; omega
    obtain ⟨q, hq⟩ : ∃ q : Nat, q = 4 * j := ⟨_, rfl⟩
    obtain ⟨q1, hq1⟩ : ∃ r : Nat, r = q + 1 := ⟨_, rfl⟩
    obtain ⟨q2, hq2⟩ : ∃ r : Nat, r = q + 2 := ⟨_, rfl⟩
    obtain ⟨q3, hq3⟩ : ∃ r : Nat, r = q + 3 := ⟨_, rfl⟩
    have hm4 : IntKind.i64.wrap (4 * (j : Int)) = (q : Int) := by rw [show 4 * (j : Int) = (q : Int) from by omega, i64_in _ (by omega)]
    have ha1 : IntKind.i64.wrap ((q : Int) + 1) = (q1 : Int) := by rw [show (q : Int) + 1 = (q1 : Int) from by omega, i64_in _ (by omega)]
    have ha2 : IntKind.i64.wrap ((q : Int) + 2) = (q2 : Int) := by rw [show (q : Int) + 2 = (q2 : Int) from by omega, i64_in _ (by omega)]
    have ha3 : IntKind.i64.wrap ((q : Int) + 3) = (q3 : Int) := by rw [show (q : Int) + 3 = (q3 : Int) from by omega, i64_in _ (by omega)]
    have hcell : ∀ p, p < 64 → cell1 (o + p) ((bare s).get b) = some (.int .u8 (atI bs p)) := fun p hp => by
      obtain ⟨c, mo, hc, hcb⟩ := hB
      have : s.get b = some (.cells c mo) := hFs.get (s0 := bare sB) hc hokb
      rw [bare_get, this, cell1_some, hcb p (by omega)]
    obtain ⟨v', s', hap, hF', hW'⟩ := appw_one s v _ (rwd bs j) hFs hW (by rw [rws_len]; omega)
    refine W.seq (W.block (W.seq (W.draw ?_)))
    iterate 2 refine WD.q rfl rfl (by simp only [push_cast, tbH3_ty, Nat.reduceEqDiff, ↓reduceIte, f0, f4]; rfl) ?_
    refine WD.q rfl rfl (by simp only [push_cast, tbH3_ty, Nat.reduceEqDiff, ↓reduceIte, hm4]; rfl) ?_
    refine WD.q rfl rfl (by simp only [push_cast, tbH3_ty, Nat.reduceEqDiff, ↓reduceIte]; exact ix47 _ _ _ _ _ _ _ (by omega)) ?_
    refine WD.q rfl rfl (by simp only [push_cast, tbH3_ty, Nat.reduceEqDiff, ↓reduceIte]; exact ld5 (bare s) _ _ _ (hcell q (by omega))) ?_
    iterate 2 refine WD.q rfl rfl (by simp only [push_cast, tbH3_ty, Nat.reduceEqDiff, ↓reduceIte]; rfl) ?_
    iterate 2 refine WD.q rfl rfl (by simp only [push_cast, tbH3_ty, Nat.reduceEqDiff, ↓reduceIte, f0, f4]; rfl) ?_
    refine WD.q rfl rfl (by simp only [push_cast, tbH3_ty, Nat.reduceEqDiff, ↓reduceIte, hm4]; rfl) ?_
    refine WD.q rfl rfl (by simp only [push_cast, tbH3_ty, Nat.reduceEqDiff, ↓reduceIte, ha1]; rfl) ?_
    refine WD.q rfl rfl (by simp only [push_cast, tbH3_ty, Nat.reduceEqDiff, ↓reduceIte]; exact ix47 _ _ _ _ _ _ _ (by omega)) ?_
    refine WD.q rfl rfl (by simp only [push_cast, tbH3_ty, Nat.reduceEqDiff, ↓reduceIte]; exact ld5 (bare s) _ _ _ (hcell q1 (by omega))) ?_
    iterate 3 refine WD.q rfl rfl (by simp only [push_cast, tbH3_ty, Nat.reduceEqDiff, ↓reduceIte]; rfl) ?_
    iterate 2 refine WD.q rfl rfl (by simp only [push_cast, tbH3_ty, Nat.reduceEqDiff, ↓reduceIte, f0, f4]; rfl) ?_
    refine WD.q rfl rfl (by simp only [push_cast, tbH3_ty, Nat.reduceEqDiff, ↓reduceIte, hm4]; rfl) ?_
    refine WD.q rfl rfl (by simp only [push_cast, tbH3_ty, Nat.reduceEqDiff, ↓reduceIte, ha2]; rfl) ?_
    refine WD.q rfl rfl (by simp only [push_cast, tbH3_ty, Nat.reduceEqDiff, ↓reduceIte]; exact ix47 _ _ _ _ _ _ _ (by omega)) ?_
    refine WD.q rfl rfl (by simp only [push_cast, tbH3_ty, Nat.reduceEqDiff, ↓reduceIte]; exact ld5 (bare s) _ _ _ (hcell q2 (by omega))) ?_
    iterate 3 refine WD.q rfl rfl (by simp only [push_cast, tbH3_ty, Nat.reduceEqDiff, ↓reduceIte]; rfl) ?_
    iterate 2 refine WD.q rfl rfl (by simp only [push_cast, tbH3_ty, Nat.reduceEqDiff, ↓reduceIte, f0, f4]; rfl) ?_
    refine WD.q rfl rfl (by simp only [push_cast, tbH3_ty, Nat.reduceEqDiff, ↓reduceIte, hm4]; rfl) ?_
    refine WD.q rfl rfl (by simp only [push_cast, tbH3_ty, Nat.reduceEqDiff, ↓reduceIte, ha3]; rfl) ?_
    refine WD.q rfl rfl (by simp only [push_cast, tbH3_ty, Nat.reduceEqDiff, ↓reduceIte]; exact ix47 _ _ _ _ _ _ _ (by omega)) ?_
    refine WD.q rfl rfl (by simp only [push_cast, tbH3_ty, Nat.reduceEqDiff, ↓reduceIte]; exact ld5 (bare s) _ _ _ (hcell q3 (by omega))) ?_
    iterate 3 refine WD.q rfl rfl (by simp only [push_cast, tbH3_ty, Nat.reduceEqDiff, ↓reduceIte]; rfl) ?_
    have hrw : rwd bs j = IntKind.u32.wrap (IntKind.u32.wrap (IntKind.u32.wrap (IntKind.u32.wrap (IntKind.u32.wrap (atI bs q) * 16777216) + IntKind.u32.wrap (IntKind.u32.wrap (atI bs q1) * 65536)) + IntKind.u32.wrap (IntKind.u32.wrap (atI bs q2) * 256)) + IntKind.u32.wrap (atI bs q3)) := by
      rw [rwd, ← hq, ← hq1, ← hq2, ← hq3]
    rw [hrw] at hap
    refine WD.nil (W.region ?_)
    refine WR.val rfl (by simp only [push_cast, tbH3_ty, Nat.reduceEqDiff, ↓reduceIte, f3]; rfl) ?_
    refine WR.val rfl (by simp only [push_cast, tbH3_ty, Nat.reduceEqDiff, ↓reduceIte]; rfl) ?_
    refine WR.val rfl (by simp only [push_cast, tbH3_ty, Nat.reduceEqDiff, ↓reduceIte, elem291, evP_cons, evP_nil, List.toList_toArray]; exact bw1 _ _) ?_
    refine WR.val rfl (by simp only [push_cast, tbH3_ty, Nat.reduceEqDiff, ↓reduceIte]; exact hap) ?_
    refine WR.val rfl (by simp only [push_cast, tbH3_ty, Nat.reduceEqDiff, ↓reduceIte]; rfl) (WR.nil (W.region ?_))
    refine WR.val rfl (by simp only [push_cast, tbH3_ty, Nat.reduceEqDiff, ↓reduceIte, f4]; rfl) ?_
    refine WR.val rfl (by simp only [push_cast, tbH3_ty, Nat.reduceEqDiff, ↓reduceIte]; rfl) ?_
    refine WR.val rfl (by simp only [push_cast, tbH3_ty, Nat.reduceEqDiff, ↓reduceIte]; rfl) (WR.nil ⟨m - 1, by omega, j + 1, _, v', rfl, by omega, ?_, ?_, ?_, hW', hF'⟩)
    · simp only [push_cast, tbH3_ty, Nat.reduceEqDiff, ↓reduceIte]
    · simp only [push_cast, Nat.reduceEqDiff, ↓reduceIte]
      rw [show ((j : Int) + 1) = ((j + 1 : Nat) : Int) from by omega, i64_in _ (by omega)]
    · simp only [push_cast]
      repeat refine Keep.set ?_ (by decide)
      exact hK
  · have hj : j = 16 := by have := of_decide_eq_false hb; omega
    subst hj
    refine k _ s v ?_ ?_ hW hFs
    · simp only [push_cast]
      repeat refine Keep.set ?_ (by decide)
      exact hK
    · simp only [push_cast, tbH3_ty, Nat.reduceEqDiff, ↓reduceIte, f3]
end Go.Proofs.Ae
namespace Go.Proofs.Ae
open Go.Proofs
set_option maxHeartbeats 4000000
theorem Fm.join2 {A : Nat → Prop} {s0 s s' : St} (h : Fm A s0 s) (h' : Fm A s0 s') : Fm A s0 (joinMods s s') :=
  ⟨h'.ok, h'.next, h'.old, fun i hi => (List.mem_append.1 hi).elim (h'.mods i) (h.mods i)⟩
theorem Fm.bare {A : Nat → Prop} {s0 s : St} (h : Fm A s0 s) : Fm A s0 (bare s) := ⟨h.ok, h.next, h.old, fun i hi => by cases hi⟩
theorem BW.same {n0 : Nat} {s s' : St} {v : Value} {l : List Int} (k : BW n0 s v l) (h : s'.get = s.get) : BW n0 s' v l := by
  cases k with
  | nil => exact .nil
  | «at» b l hb hg => exact .at b l hb (by rw [h, hg])
theorem rrot_cp (x : Int) (n : Nat) (hn : n ≤ 32) (s : St) : CP tbH3 191 [.int .u32 x, .int .u64 (n : Int)] s (fun v s' => v = .int .u32 (rrV x n) ∧ s' = s) := rrot_C x n hn s
theorem rsh_cp (x : Int) (n : Nat) (s : St) : CP tbH3 202 [.int .u32 x, .int .u64 (n : Int)] s (fun v s' => v = .int .u32 (shrI .u32 x (n : Int)) ∧ s' = s) := rsh_C x n s
theorem ix291 (s : St) (b o n c : Nat) (k : IntKind) (i : Nat) (h : i < n) : indexAddrA tyT s (.slice (some ⟨b, o, none⟩) n c) (.int k (i : Int)) (tyT.get 291) = some (.val (.pointer (some ⟨b, o + i, none⟩)), s) := by
  obtain ⟨ti47, t47, d47, _⟩ := ty291
  obtain ⟨ti5, t5, d5, z5⟩ := ty267
  rw [t47, indexAddr_slice _ _ _ _ _ _ _ _ _ d47, t5, idxTo_in _ _ _ _ ti5 (by omega) (by omega), addA_none, z5]; simp
theorem BW.ix {n0 : Nat} {s : St} {v : Value} {l : List Int} (k : BW n0 s v l) (hl : 0 < l.length) : ∃ b, (∀ s' K i, i < l.length → indexAddrA tyT s' v (.int K (i : Int)) (tyT.get 291) = some (.val (.pointer (some ⟨b, i, none⟩)), s')) ∧ s.get b = some (.cells (u32s l) .grow) ∧ n0 ≤ b := by
  cases k with
  | nil => simp at hl
  | «at» b l hb hg => exact ⟨b, fun s' K i hi => by rw [ix291 _ _ _ _ _ _ _ hi, Nat.zero_add], hg, hb⟩
def rmore (l : List Int) (i : Nat) : Int :=
  IntKind.u32.wrap (IntKind.u32.wrap (IntKind.u32.wrap (atI l (i - 16) + atI l (i - 7)) + xorW (xorW (rrV (atI l (i - 15)) 7) (rrV (atI l (i - 15)) 18)) (shrI .u32 (atI l (i - 15)) 3)) + xorW (xorW (rrV (atI l (i - 2)) 17) (rrV (atI l (i - 2)) 19)) (shrI .u32 (atI l (i - 2)) 10))
def rgrow (l : List Int) : Nat → List Int
  | 0 => l
  | k + 1 => rgrow l k ++ [rmore (rgrow l k) (l.length + k)]
theorem rgrow_len (l : List Int) : ∀ k, (rgrow l k).length = l.length + k
  | 0 => rfl
  | k + 1 => by simp [rgrow, rgrow_len l k]; omega
def keep11 : List Nat := [3, 6, 7, 8, 9, 10, 52, 53, 54, 55, 56, 57, 58, 59, 60, 61, 62, 63, 64, 65, 66, 67, 68, 69, 70, 71, 72, 73, 74, 75, 76, 77, 78, 79, 80, 81, 82, 83, 84, 85, 86, 87, 88, 89, 90, 91, 92, 93, 94, 95, 96, 97, 98, 99, 100]
theorem rspr_more (n0 : Nat) (l : List Int) (hl : l.length = 16) (a0 : AA) (s0 sA : St) (Q : AX → AA → St → Prop) (hn0 : n0 = s0.next) (v0 : Value)
    (e3 : tmA a0.tm 3 = v0) (e6 : tmA a0.tm 6 = .int .i64 16) (hW0 : BW n0 sA v0 l) (hF : Fm Nil0 s0 sA)
    (k : ∀ tm s v, Keep keep11 a0.tm tm → tmA tm 3 = v → BW n0 s v (rgrow l 48) → Fm Nil0 s0 s → Q .normal ⟨tm, a0.df, a0.rnd, a0.fid⟩ s) :
    W tbH3 (.block 2 (.loop (.seq (.seq (.region 8 rspr_8 false) (.cond (.tmp 53) .skip (.exit 2))) (.seq (.block 3 (.seq (.region 10 rspr_9 false) (.seq (.region 11 rspr_10 false) (.seq (.region 12 rspr_11 false) (.seq (.region 13 rspr_12 false) (.region 14 rspr_13 true)))))) (.region 9 rspr_14 false))))) a0 sA Q := by
  refine W.block (W.loop (fun m a s => ∃ (j : Nat) (tm : Tr Value) (v : Value), a = ⟨tm, a0.df, a0.rnd, a0.fid⟩ ∧ j + m = 48 ∧ tmA tm 3 = v ∧ tmA tm 6 = .int .i64 ((16 + j : Nat) : Int) ∧ Keep keep11 a0.tm tm ∧ BW n0 s v (rgrow l j) ∧ Fm Nil0 s0 s) ?_ 48 a0 sA ⟨0, a0.tm, v0, rfl, rfl, e3, e6, Keep.refl _ _, hW0, hF⟩)
  rintro m a s ⟨j, tm, v, rfl, hm, f3, f6', hK, hW, hFs⟩
  obtain ⟨i, hi⟩ : ∃ i : Nat, i = 16 + j := ⟨_, rfl⟩
  have f6 : tmA tm 6 = .int .i64 (i : Int) := by rw [f6', hi]
  clear f6'
  have hlen := rgrow_len l j
  rw [hl] at hlen
  obtain ⟨b, hix, hgb, _⟩ := hW.ix (by omega)
  rw [hlen] at hix
  refine W.seq (W.seq (W.region ?_))
  iterate 2 refine WR.val rfl (by simp only [push_cast, tbH3_ty, Nat.reduceEqDiff, ↓reduceIte, f6]; rfl) ?_
  refine WR.nil (W.cond (b := decide ((i : Int) < 64)) (by simp only [push_cast, tbH3_ty, Nat.reduceEqDiff, ↓reduceIte]) (fun hb => W.skip ?_) (fun hb => W.exit ?_))
  · have hj : i < 64 := by have := of_decide_eq_true hb; omega
    have s15 : IntKind.i64.wrap ((i : Int) - 15) = ((i - 15 : Nat) : Int) := by rw [show ((i : Int) - 15) = ((i - 15 : Nat) : Int) from by omega, i64_in _ (by omega)]
    have s2 : IntKind.i64.wrap ((i : Int) - 2) = ((i - 2 : Nat) : Int) := by rw [show ((i : Int) - 2) = ((i - 2 : Nat) : Int) from by omega, i64_in _ (by omega)]
    have s16 : IntKind.i64.wrap ((i : Int) - 16) = ((i - 16 : Nat) : Int) := by rw [show ((i : Int) - 16) = ((i - 16 : Nat) : Int) from by omega, i64_in _ (by omega)]
    have s7 : IntKind.i64.wrap ((i : Int) - 7) = ((i - 7 : Nat) : Int) := by rw [show ((i : Int) - 7) = ((i - 7 : Nat) : Int) from by omega, i64_in _ (by omega)]
    have cw : ∀ p, p < 16 + j → cell1 p (s.get b) = some (.int .u32 (atI (rgrow l j) p)) := fun p hp => by rw [hgb, cell1_some, u32s_get (by omega)]
    obtain ⟨p15, h15⟩ : ∃ p : Nat, p = i - 15 := ⟨_, rfl⟩
    obtain ⟨p2, h2⟩ : ∃ p : Nat, p = i - 2 := ⟨_, rfl⟩
    obtain ⟨p16, h16⟩ : ∃ p : Nat, p = i - 16 := ⟨_, rfl⟩
    obtain ⟨p7, h7⟩ : ∃ p : Nat, p = i - 7 := ⟨_, rfl⟩
    rw [← h15] at s15
    rw [← h2] at s2
    rw [← h16] at s16
    rw [← h7] at s7
    obtain ⟨x, hx⟩ : ∃ x, x = rmore (rgrow l j) i := ⟨_, rfl⟩
    obtain ⟨v', s', hap, hF', hW'⟩ := appw_one (bare s) v _ x hFs.bare (by subst hn0; exact hW.same rfl) (by omega)
    have hx0 := hx
    rw [rmore, ← h15, ← h2, ← h16, ← h7] at hx
    rw [hx] at hap
    refine W.seq (W.block (W.seq (W.region ?_)))
    iterate 2 refine WR.val rfl (by simp only [push_cast, tbH3_ty, Nat.reduceEqDiff, ↓reduceIte, f3, f6]; rfl) ?_
    refine WR.val rfl (by simp only [push_cast, tbH3_ty, Nat.reduceEqDiff, ↓reduceIte, s15]; rfl) ?_
    refine WR.val rfl (by simp only [push_cast, tbH3_ty, Nat.reduceEqDiff, ↓reduceIte]; exact hix _ _ _ (by omega)) ?_
    refine WR.val rfl (by simp only [push_cast, tbH3_ty, Nat.reduceEqDiff, ↓reduceIte]; exact ld267 _ _ _ _ (cw _ (by omega))) ?_
    refine WR.val rfl (by simp only [push_cast, tbH3_ty, Nat.reduceEqDiff, ↓reduceIte]; rfl) ?_
    refine WR.nil (W.seq (W.region ?_))
    iterate 2 refine WR.val rfl (by simp only [push_cast, tbH3_ty, Nat.reduceEqDiff, ↓reduceIte, f3, f6]; rfl) ?_
    refine WR.val rfl (by simp only [push_cast, tbH3_ty, Nat.reduceEqDiff, ↓reduceIte, s2]; rfl) ?_
    refine WR.val rfl (by simp only [push_cast, tbH3_ty, Nat.reduceEqDiff, ↓reduceIte]; exact hix _ _ _ (by omega)) ?_
    refine WR.val rfl (by simp only [push_cast, tbH3_ty, Nat.reduceEqDiff, ↓reduceIte]; exact ld267 _ _ _ _ (cw _ (by omega))) ?_
    refine WR.val rfl (by simp only [push_cast, tbH3_ty, Nat.reduceEqDiff, ↓reduceIte]; rfl) ?_
    refine WR.nil (W.seq (W.region ?_))
    refine WR.val rfl (by simp only [push_cast, tbH3_ty, Nat.reduceEqDiff, ↓reduceIte]; rfl) ?_
    refine WR.call rfl (by simp only [push_cast, tbH3_ty, Nat.reduceEqDiff, ↓reduceIte]; rfl) (rrot_cp _ 7 (by omega) _) ?_
    rintro _ s ⟨rfl, rfl⟩
    refine WR.val rfl (by simp only [push_cast, tbH3_ty, Nat.reduceEqDiff, ↓reduceIte]; rfl) ?_
    refine WR.call rfl (by simp only [push_cast, tbH3_ty, Nat.reduceEqDiff, ↓reduceIte]; rfl) (rrot_cp _ 18 (by omega) _) ?_
    rintro _ s ⟨rfl, rfl⟩
    iterate 2 refine WR.val rfl (by simp only [push_cast, tbH3_ty, Nat.reduceEqDiff, ↓reduceIte]; rfl) ?_
    refine WR.call rfl (by simp only [push_cast, tbH3_ty, Nat.reduceEqDiff, ↓reduceIte]; rfl) (rsh_cp _ 3 _) ?_
    rintro _ s ⟨rfl, rfl⟩
    iterate 2 refine WR.val rfl (by simp only [push_cast, tbH3_ty, Nat.reduceEqDiff, ↓reduceIte]; rfl) ?_
    refine WR.nil (W.seq (W.region ?_))
    refine WR.val rfl (by simp only [push_cast, tbH3_ty, Nat.reduceEqDiff, ↓reduceIte]; rfl) ?_
    refine WR.call rfl (by simp only [push_cast, tbH3_ty, Nat.reduceEqDiff, ↓reduceIte]; rfl) (rrot_cp _ 17 (by omega) _) ?_
    rintro _ s ⟨rfl, rfl⟩
    refine WR.val rfl (by simp only [push_cast, tbH3_ty, Nat.reduceEqDiff, ↓reduceIte]; rfl) ?_
    refine WR.call rfl (by simp only [push_cast, tbH3_ty, Nat.reduceEqDiff, ↓reduceIte]; rfl) (rrot_cp _ 19 (by omega) _) ?_
    rintro _ s ⟨rfl, rfl⟩
    iterate 2 refine WR.val rfl (by simp only [push_cast, tbH3_ty, Nat.reduceEqDiff, ↓reduceIte]; rfl) ?_
    refine WR.call rfl (by simp only [push_cast, tbH3_ty, Nat.reduceEqDiff, ↓reduceIte]; rfl) (rsh_cp _ 10 _) ?_
    rintro _ s ⟨rfl, rfl⟩
    iterate 2 refine WR.val rfl (by simp only [push_cast, tbH3_ty, Nat.reduceEqDiff, ↓reduceIte]; rfl) ?_
    refine WR.nil (W.draw ?_)
    iterate 3 refine WD.q rfl rfl (by simp only [push_cast, tbH3_ty, Nat.reduceEqDiff, ↓reduceIte, f3, f6]; rfl) ?_
    refine WD.q rfl rfl (by simp only [push_cast, tbH3_ty, Nat.reduceEqDiff, ↓reduceIte, s16]; rfl) ?_
    refine WD.q rfl rfl (by simp only [push_cast, tbH3_ty, Nat.reduceEqDiff, ↓reduceIte]; exact hix _ _ _ (by omega)) ?_
    refine WD.q rfl rfl (by simp only [push_cast, tbH3_ty, Nat.reduceEqDiff, ↓reduceIte]; exact ld267 (bare s) _ _ _ (cw _ (by omega))) ?_
    iterate 2 refine WD.q rfl rfl (by simp only [push_cast, tbH3_ty, Nat.reduceEqDiff, ↓reduceIte, f3, f6]; rfl) ?_
    refine WD.q rfl rfl (by simp only [push_cast, tbH3_ty, Nat.reduceEqDiff, ↓reduceIte, s7]; rfl) ?_
    refine WD.q rfl rfl (by simp only [push_cast, tbH3_ty, Nat.reduceEqDiff, ↓reduceIte]; exact hix _ _ _ (by omega)) ?_
    refine WD.q rfl rfl (by simp only [push_cast, tbH3_ty, Nat.reduceEqDiff, ↓reduceIte]; exact ld267 (bare s) _ _ _ (cw _ (by omega))) ?_
    iterate 5 refine WD.q rfl rfl (by simp only [push_cast, tbH3_ty, Nat.reduceEqDiff, ↓reduceIte]; rfl) ?_
    refine WD.val rfl rfl (by simp only [push_cast, tbH3_ty, Nat.reduceEqDiff, ↓reduceIte, elem291, evP_cons, evP_nil, List.toList_toArray]; exact bw1 (bare s) _) rfl (apartB_empty _ _) ?_
    rw [join_alloc]
    refine WD.eff rfl rfl (by simp only [push_cast, tbH3_ty, Nat.reduceEqDiff, ↓reduceIte, f3]; exact hap) rfl ?_ ?_
    · repeat refine apartB_tag (by rfl) ?_
      exact apartB_nil _ _
    refine WD.val rfl rfl (by simp only [push_cast, tbH3_ty, Nat.reduceEqDiff, ↓reduceIte]; rfl) rfl (apartB_empty _ _) (WD.nil ?_)
    rw [join_bare]
    refine W.region ?_
    iterate 3 refine WR.val rfl (by simp only [push_cast, tbH3_ty, Nat.reduceEqDiff, ↓reduceIte, f6]; rfl) ?_
    refine WR.nil ⟨m - 1, by omega, j + 1, _, v', rfl, by omega, ?_, ?_, ?_, ?_, (hFs.alloc _).join2 hF'⟩
    · simp only [push_cast, tbH3_ty, Nat.reduceEqDiff, ↓reduceIte]
    · simp only [push_cast, Nat.reduceEqDiff, ↓reduceIte]
      rw [show ((i : Int) + 1) = ((16 + (j + 1) : Nat) : Int) from by omega, i64_in _ (by omega)]
      simp only [push_cast]
    · simp only [push_cast]
      repeat refine Keep.set ?_ (by decide)
      exact hK
    · rw [rgrow, hl, ← hi]
      rw [← hx0]
      subst hn0
      exact hW'.same rfl
  · have hj : j = 48 := by have := of_decide_eq_false hb; omega
    subst hj
    refine k _ s v ?_ ?_ hW hFs
    · simp only [push_cast]
      repeat refine Keep.set ?_ (by decide)
      exact hK
    · simp only [push_cast, tbH3_ty, Nat.reduceEqDiff, ↓reduceIte, f3]
end Go.Proofs.Ae
namespace Go.Proofs.Ae
open Go.Proofs
set_option maxHeartbeats 4000000
theorem rspr_C (s : St) (hok : s.Ok) (b o cap : Nat) (bs : List Int) (hl : bs.length = 64) (hB : BytesAt s b o bs) :
    CP tbH3 190 [.slice (some ⟨b, o, none⟩) 64 cap] s (fun v s' => BW s.next s' v (rgrow (rws bs 16) 48) ∧ Fm Nil0 s s') := by
  refine CP.of rfl (by kernel_rfl) rspr_body (Nat.le_of_ble_eq_true rfl) ?_
  have e0 : tmA (argsTr [.slice (some ⟨b, o, none⟩) 64 cap] 0 .nil) 0 = .slice (some ⟨b, o, none⟩) 64 cap := rfl
  generalize argsTr [.slice (some ⟨b, o, none⟩) 64 cap] 0 .nil = t0 at e0 ⊢
  refine W.seq (W.region ?_)
  refine WR.val rfl (by simp only [push_cast, tbH3_ty, Nat.reduceEqDiff, ↓reduceIte]; rfl) (WR.nil ?_)
  refine W.seq (W.region ?_)
  refine WR.val rfl (by simp only [push_cast, tbH3_ty, Nat.reduceEqDiff, ↓reduceIte]; rfl) (WR.nil ?_)
  refine W.seq (W.seq (W.region ?_))
  refine WR.val rfl (by simp only [push_cast, tbH3_ty, Nat.reduceEqDiff, ↓reduceIte]; rfl) (WR.nil ?_)
  refine rspr_words s hok b o cap bs hl hB _ _ _ ?_ ?_ ?_ (Fm.refl hok) ?_
  · simp only [push_cast, tbH3_ty, Nat.reduceEqDiff, ↓reduceIte, e0]
  · simp only [push_cast, tbH3_ty, Nat.reduceEqDiff, ↓reduceIte]
  · simp only [push_cast, tbH3_ty, Nat.reduceEqDiff, ↓reduceIte]
  intro tm s1 v hK f3 hW hF
  refine W.seq (W.seq (W.region ?_))
  refine WR.val rfl (by simp only [push_cast, tbH3_ty, Nat.reduceEqDiff, ↓reduceIte]; rfl) (WR.nil ?_)
  refine rspr_more s.next (rws bs 16) (rws_len bs 16) _ (bare s) s1 _ rfl v ?_ ?_ hW hF ?_
  · simp only [push_cast, tbH3_ty, Nat.reduceEqDiff, ↓reduceIte, f3]
  · simp only [push_cast, tbH3_ty, Nat.reduceEqDiff, ↓reduceIte]
  intro tm2 s2 v2 hK2 g3 hW2 hF2
  refine W.seq (W.region ?_)
  refine WR.val rfl (by simp only [push_cast, tbH3_ty, Nat.reduceEqDiff, ↓reduceIte, g3]; rfl) ?_
  refine WR.val rfl (by simp only [push_cast, tbH3_ty, Nat.reduceEqDiff, ↓reduceIte]; rfl) (WR.nil ?_)
  refine W.ret ⟨.inr rfl, rfl, [v2], ?_, hW2.same rfl, hF2.keep hok⟩
  rw [show Tryz.f190.results.toList = [.tmp 2] from rfl, res1]
  simp only [push_cast, tbH3_ty, Nat.reduceEqDiff, ↓reduceIte]
noncomputable def rchg_0 : Array Oper := opsAt Tryz.f164 [0]
noncomputable def rchg_1 : Array Oper := opsAt Tryz.f164 [1, 0]
noncomputable def rchg_2 : Array Oper := opsAt Tryz.f164 [1, 1, 0]
noncomputable def rchg_3 : Array Oper := opsAt Tryz.f164 [1, 1, 1, 0, 0]
noncomputable def rchg_4 : Array Oper := opsAt Tryz.f164 [1, 1, 1, 0, 1, 0, 0, 0, 0]
noncomputable def rchg_5 : Array Oper := opsAt Tryz.f164 [1, 1, 1, 0, 1, 0, 0, 1, 0, 0, 0]
noncomputable def rchg_6 : Array Oper := opsAt Tryz.f164 [1, 1, 1, 0, 1, 0, 0, 1, 0, 0, 1, 0]
noncomputable def rchg_7 : Array Oper := opsAt Tryz.f164 [1, 1, 1, 0, 1, 0, 0, 1, 0, 0, 1, 1, 0]
noncomputable def rchg_8 : Array Oper := opsAt Tryz.f164 [1, 1, 1, 0, 1, 0, 0, 1, 0, 0, 1, 1, 1, 0]
noncomputable def rchg_9 : Array Oper := opsAt Tryz.f164 [1, 1, 1, 0, 1, 0, 0, 1, 0, 0, 1, 1, 1, 1, 0]
noncomputable def rchg_10 : Array Oper := opsAt Tryz.f164 [1, 1, 1, 0, 1, 0, 0, 1, 0, 0, 1, 1, 1, 1, 1, 0]
noncomputable def rchg_11 : Array Oper := opsAt Tryz.f164 [1, 1, 1, 0, 1, 0, 0, 1, 0, 0, 1, 1, 1, 1, 1, 1, 0]
noncomputable def rchg_12 : Array Oper := opsAt Tryz.f164 [1, 1, 1, 0, 1, 0, 0, 1, 0, 0, 1, 1, 1, 1, 1, 1, 1, 0, 0]
noncomputable def rchg_13 : Array Oper := opsAt Tryz.f164 [1, 1, 1, 0, 1, 0, 0, 1, 0, 0, 1, 1, 1, 1, 1, 1, 1, 0, 1, 0, 0, 0, 0]
noncomputable def rchg_14 : Array Oper := opsAt Tryz.f164 [1, 1, 1, 0, 1, 0, 0, 1, 0, 0, 1, 1, 1, 1, 1, 1, 1, 0, 1, 0, 0, 1, 0, 0]
noncomputable def rchg_15 : Array Oper := opsAt Tryz.f164 [1, 1, 1, 0, 1, 0, 0, 1, 0, 0, 1, 1, 1, 1, 1, 1, 1, 0, 1, 0, 0, 1, 1]
noncomputable def rchg_16 : Array Oper := opsAt Tryz.f164 [1, 1, 1, 0, 1, 0, 0, 1, 0, 0, 1, 1, 1, 1, 1, 1, 1, 1, 0]
noncomputable def rchg_17 : Array Oper := opsAt Tryz.f164 [1, 1, 1, 0, 1, 0, 0, 1, 0, 0, 1, 1, 1, 1, 1, 1, 1, 1, 1]
noncomputable def rchg_18 : Array Oper := opsAt Tryz.f164 [1, 1, 1, 0, 1, 0, 0, 1, 1]
noncomputable def rchg_19 : Array Oper := opsAt Tryz.f164 [1, 1, 1, 1, 0, 0]
noncomputable def rchg_20 : Array Oper := opsAt Tryz.f164 [1, 1, 1, 1, 0, 1, 0, 0, 0, 0]
noncomputable def rchg_21 : Array Oper := opsAt Tryz.f164 [1, 1, 1, 1, 0, 1, 0, 0, 1, 0, 0]
noncomputable def rchg_22 : Array Oper := opsAt Tryz.f164 [1, 1, 1, 1, 0, 1, 0, 0, 1, 1]
noncomputable def rchg_23 : Array Oper := opsAt Tryz.f164 [1, 1, 1, 1, 1, 0]
theorem rchg_body : Tryz.f164.body = some (.seq (.region 0 rchg_0 false) (.seq (.region 1 rchg_1 false) (.seq (.region 2 rchg_2 false) (.seq (.seq (.region 3 rchg_3 false) (.block 0 (.loop (.seq (.seq (.region 4 rchg_4 false) (.cond (.tmp 21) .skip (.exit 0))) (.seq (.block 1 (.seq (.region 6 rchg_5 false) (.seq (.region 7 rchg_6 false) (.seq (.region 8 rchg_7 false) (.seq (.region 9 rchg_8 false) (.seq (.region 10 rchg_9 true) (.seq (.region 11 rchg_10 false) (.seq (.region 12 rchg_11 false) (.seq (.seq (.region 13 rchg_12 false) (.block 2 (.loop (.seq (.seq (.region 14 rchg_13 false) (.cond (.tmp 85) .skip (.exit 2))) (.seq (.block 3 (.region 16 rchg_14 false)) (.region 15 rchg_15 false)))))) (.seq (.region 17 rchg_16 false) (.region 18 rchg_17 false))))))))))) (.region 5 rchg_18 false)))))) (.seq (.seq (.region 19 rchg_19 false) (.block 4 (.loop (.seq (.seq (.region 20 rchg_20 false) (.cond (.tmp 106) .skip (.exit 4))) (.seq (.block 5 (.region 22 rchg_21 true)) (.region 21 rchg_22 false)))))) (.seq (.region 23 rchg_23 false) .ret)))))) := by kernel_rfl
theorem ty268 : ∃ ti, tyT.get 268 = some ti ∧ ti.d = .array 8 267 ∧ ti.size = 8 ∧ ti.zero.cells.toList = u32s [0, 0, 0, 0, 0, 0, 0, 0] := tyZ (by kernel_rfl)
theorem ix268 (s : St) (b o : Nat) (k : IntKind) (j : Int) (i : Nat) (hj : j = (i : Int)) (h : i < 8) : indexAddrA tyT s (.pointer (some ⟨b, o, none⟩)) (.int k j) (tyT.get 268) = some (.val (.pointer (some ⟨b, o + i, none⟩)), s) := by
  subst hj
  obtain ⟨ti47, t47, d47, _⟩ := ty268
  obtain ⟨ti5, t5, d5, z5⟩ := ty267
  rw [t47, indexAddr_array _ _ _ _ _ _ _ _ d47, t5, idxTo_in _ _ _ _ ti5 (by omega) (by omega), addA_none, z5]; simp
theorem st268 (s : St) (b : Nat) (w w' : List Int) (h : s.get b = some (.cells (u32s w) .exact)) (hw : w.length = 8) (hw' : w'.length = 8) : storeA s (.pointer (some ⟨b, 0, none⟩)) (.agg (u32s w').toArray) (tyT.get 268) = some (.skip, s.upd b (.cells (u32s w') .exact)) := by
  obtain ⟨ti47, t47, d47, z, z47⟩ := ty268
  rw [t47, store_arr ti47 s b (u32s w) _ (by rw [z, u32s_len, hw']) (by rw [u32s_len, u32s_len, hw, hw']) (allOne_u32 _) h]
theorem ld268 (s : St) (b : Nat) (w : List Int) (m : Mode) (h : s.get b = some (.cells (u32s w) m)) (hw : w.length = 8) : loadA s (.pointer (some ⟨b, 0, none⟩)) (tyT.get 268) = some (.val (.agg (u32s w).toArray), s) := by
  obtain ⟨ti47, t47, d47, z, z47⟩ := ty268
  rw [t47, load_arr ti47 8 267 s b _ _ d47 (by rw [z, u32s_len, hw]) h]
def rshift (x : List Int) : Nat → List Int
  | 0 => x
  | t + 1 => (rshift x t).set (7 - t) (atI (rshift x t) (6 - t))
theorem rshift_len (x : List Int) : ∀ t, (rshift x t).length = x.length
  | 0 => rfl
  | t + 1 => by simp [rshift, rshift_len x t]
def rS (x : Int) (a b c : Nat) : Int := xorW (xorW (rrV x a) (rrV x b)) (rrV x c)
def rT (x : List Int) (k w : Int) : Int :=
  IntKind.u32.wrap (IntKind.u32.wrap (IntKind.u32.wrap (IntKind.u32.wrap (atI x 7 + rS (atI x 4) 6 11 25) + xorW (andW (atI x 4) (atI x 5)) (andW (notW (atI x 4)) (atI x 6))) + k) + w)
def rround (x : List Int) (k w : Int) : List Int :=
  ((rshift x 7).set 4 (IntKind.u32.wrap (atI (rshift x 7) 4 + rT x k w))).set 0
    (IntKind.u32.wrap (IntKind.u32.wrap (rT x k w + rS (atI x 0) 2 13 22) + xorW (xorW (andW (atI x 0) (atI x 1)) (andW (atI x 0) (atI x 2))) (andW (atI x 1) (atI x 2))))
def rrounds (ks ws x : List Int) : Nat → List Int
  | 0 => x
  | j + 1 => rround (rrounds ks ws x j) (atI ks j) (atI ws j)
theorem rround_len (x : List Int) (k w : Int) : (rround x k w).length = x.length := by simp [rround, rshift_len]
theorem rrounds_len (ks ws x : List Int) : ∀ j, (rrounds ks ws x j).length = x.length
  | 0 => rfl
  | j + 1 => by rw [rrounds, rround_len, rrounds_len ks ws x j]
def Is1 (n i : Nat) : Prop := i = n
def keep12 : List Nat := [15, 84, 85, 86, 87, 88, 89, 90, 91, 92, 93]
theorem rchg_shift (sB : St) (n2 : Nat) (hn : n2 < sB.next) (x : List Int) (hx : x.length = 8) (a0 : AA) (sA : St) (Q : AX → AA → St → Prop)
    (e6 : tmA a0.tm 6 = .pointer (some ⟨n2, 0, none⟩)) (e15 : tmA a0.tm 15 = .int .i64 7) (hg : sA.get n2 = some (.cells (u32s x) .exact)) (hF : Fm (Is1 n2) sB sA)
    (k : ∀ tm s, Keep keep12 a0.tm tm → s.get n2 = some (.cells (u32s (rshift x 7)) .exact) → Fm (Is1 n2) sB s → Q .normal ⟨tm, a0.df, a0.rnd, a0.fid⟩ s) :
    W tbH3 (.block 2 (.loop (.seq (.seq (.region 14 rchg_13 false) (.cond (.tmp 85) .skip (.exit 2))) (.seq (.block 3 (.region 16 rchg_14 false)) (.region 15 rchg_15 false))))) a0 sA Q := by
  refine W.block (W.loop (fun m a s => ∃ (t : Nat) (tm : Tr Value), a = ⟨tm, a0.df, a0.rnd, a0.fid⟩ ∧ t + m = 7 ∧ tmA tm 15 = .int .i64 ((7 - t : Nat) : Int) ∧ Keep keep12 a0.tm tm ∧ s.get n2 = some (.cells (u32s (rshift x t)) .exact) ∧ Fm (Is1 n2) sB s) ?_ 7 a0 sA ⟨0, a0.tm, rfl, rfl, e15, Keep.refl _ _, hg, hF⟩)
  rintro m a s ⟨t, tm, rfl, hm, f15', hK, hs, hFs⟩
  obtain ⟨i, hi⟩ : ∃ i : Nat, i = 7 - t := ⟨_, rfl⟩
  have f15 : tmA tm 15 = .int .i64 (i : Int) := by rw [f15', hi]
  clear f15'
  have f6 : tmA tm 6 = .pointer (some ⟨n2, 0, none⟩) := by rw [hK 6 (by decide), e6]
  refine W.seq (W.seq (W.region ?_))
  iterate 2 refine WR.val rfl (by simp only [push_cast, tbH3_ty, Nat.reduceEqDiff, ↓reduceIte, f15]; rfl) ?_
  refine WR.nil (W.cond (b := decide ((i : Int) > 0)) (by simp only [push_cast, tbH3_ty, Nat.reduceEqDiff, ↓reduceIte]) (fun hb => W.skip ?_) (fun hb => W.exit ?_))
  · have hi0 : 0 < i := by have := of_decide_eq_true hb; omega
    obtain ⟨p, hp⟩ : ∃ p : Nat, p = i - 1 := ⟨_, rfl⟩
    have hsub : IntKind.i64.wrap ((i : Int) - 1) = (p : Int) := by rw [show (i : Int) - 1 = (p : Int) from by omega, i64_in _ (by omega)]
    have hln := rshift_len x t
    refine W.seq (W.block (W.region ?_))
    iterate 2 refine WR.val rfl (by simp only [push_cast, tbH3_ty, Nat.reduceEqDiff, ↓reduceIte, f15]; rfl) ?_
    refine WR.val rfl (by simp only [push_cast, tbH3_ty, Nat.reduceEqDiff, ↓reduceIte, hsub]; rfl) ?_
    refine WR.val rfl (by simp only [push_cast, tbH3_ty, Nat.reduceEqDiff, ↓reduceIte, f6]; rw [ix268 _ _ _ _ _ p rfl (by omega), Nat.zero_add]) ?_
    refine WR.val rfl (by simp only [push_cast, tbH3_ty, Nat.reduceEqDiff, ↓reduceIte]; exact ld267 _ _ _ (.int .u32 (atI (rshift x t) p)) (by rw [hs, cell1_some, u32s_get (by omega)])) ?_
    refine WR.val rfl (by simp only [push_cast, tbH3_ty, Nat.reduceEqDiff, ↓reduceIte, f6]; rw [ix268 _ _ _ _ _ i rfl (by omega), Nat.zero_add]) ?_
    refine WR.do rfl (by simp only [push_cast, tbH3_ty, Nat.reduceEqDiff, ↓reduceIte]; exact st267 _ _ _ (rshift x t) _ hs (by omega)) ?_
    refine WR.nil (W.region ?_)
    refine WR.val rfl (by simp only [push_cast, tbH3_ty, Nat.reduceEqDiff, ↓reduceIte, f15]; rfl) ?_
    refine WR.val rfl (by simp only [push_cast, tbH3_ty, Nat.reduceEqDiff, ↓reduceIte, hsub]; rfl) ?_
    refine WR.val rfl (by simp only [push_cast, tbH3_ty, Nat.reduceEqDiff, ↓reduceIte]; rfl) (WR.nil ⟨m - 1, by omega, t + 1, _, rfl, by omega, ?_, ?_, ?_, hFs.upd _ (.inl rfl) (Nat.lt_of_lt_of_le hn hFs.next)⟩)
    · simp only [push_cast, tbH3_ty, Nat.reduceEqDiff, ↓reduceIte]
      rw [show (7 - (t + 1) : Nat) = p from by omega]
    · simp only [push_cast]
      repeat refine Keep.set ?_ (by decide)
      exact hK
    · rw [St.get_upd_self, rshift, ← hi, show 6 - t = p from by omega]
  · have hj : t = 7 := by have := of_decide_eq_false hb; omega
    subst hj
    refine k _ s ?_ hs hFs
    simp only [push_cast]
    repeat refine Keep.set ?_ (by decide)
    exact hK
def keep13 : List Nat := [7, 8, 9, 10, 11, 12, 13, 14, 15, 20, 21, 22, 23, 24, 25, 26, 27, 28, 29, 30, 31, 32, 33, 34, 35, 36, 37, 38, 39, 40, 41, 42, 43, 44, 45, 46, 47, 48, 49, 50, 51, 52, 53, 54, 55, 56, 57, 58, 59, 60, 61, 62, 63, 64, 65, 66, 67, 68, 69, 70, 71, 72, 73, 74, 75, 76, 77, 78, 79, 80, 81, 82, 83, 84, 85, 86, 87, 88, 89, 90, 91, 92, 93, 94, 95, 96, 97, 98, 99, 100, 101, 102, 103, 104]
theorem rchg_rounds (sB : St) (hokB : sB.Ok) (n2 : Nat) (hn : n2 < sB.next) (h ws : List Int) (hh : h.length = 8) (hw : ws.length = 64) (n0 : Nat) (w : Value) (hW : BW n0 sB w ws) (hW2 : ∀ b, sB.get b = some (.cells (u32s ws) .grow) → b ≠ n2)
    (hk : sB.get 3 = some (.cells (u32s kL) .ro)) (h3 : 3 ≠ n2) (a0 : AA) (sA : St) (Q : AX → AA → St → Prop)
    (e5 : tmA a0.tm 5 = w) (e6 : tmA a0.tm 6 = .pointer (some ⟨n2, 0, none⟩)) (e7 : tmA a0.tm 7 = .int .i64 0) (hg : sA.get n2 = some (.cells (u32s h) .exact)) (hF : Fm (Is1 n2) sB sA)
    (k : ∀ tm s, Keep keep13 a0.tm tm → s.get n2 = some (.cells (u32s (rrounds kL ws h 64)) .exact) → Fm (Is1 n2) sB s → Q .normal ⟨tm, a0.df, a0.rnd, a0.fid⟩ s) :
    W tbH3 (.block 0 (.loop (.seq (.seq (.region 4 rchg_4 false) (.cond (.tmp 21) .skip (.exit 0))) (.seq (.block 1 (.seq (.region 6 rchg_5 false) (.seq (.region 7 rchg_6 false) (.seq (.region 8 rchg_7 false) (.seq (.region 9 rchg_8 false) (.seq (.region 10 rchg_9 true) (.seq (.region 11 rchg_10 false) (.seq (.region 12 rchg_11 false) (.seq (.seq (.region 13 rchg_12 false) (.block 2 (.loop (.seq (.seq (.region 14 rchg_13 false) (.cond (.tmp 85) .skip (.exit 2))) (.seq (.block 3 (.region 16 rchg_14 false)) (.region 15 rchg_15 false)))))) (.seq (.region 17 rchg_16 false) (.region 18 rchg_17 false))))))))))) (.region 5 rchg_18 false))))) a0 sA Q := by
  obtain ⟨bw, hix, hgw, _⟩ := hW.ix (by omega)
  rw [hw] at hix
  have hbw := hW2 bw hgw
  have hbn : bw < sB.next := hokB _ (hdom_of hgw)
  have h3n : 3 < sB.next := hokB _ (hdom_of hk)
  refine W.block (W.loop (fun m a s => ∃ (j : Nat) (tm : Tr Value), a = ⟨tm, a0.df, a0.rnd, a0.fid⟩ ∧ j + m = 64 ∧ tmA tm 7 = .int .i64 (j : Int) ∧ Keep keep13 a0.tm tm ∧ s.get n2 = some (.cells (u32s (rrounds kL ws h j)) .exact) ∧ Fm (Is1 n2) sB s) ?_ 64 a0 sA ⟨0, a0.tm, rfl, rfl, e7, Keep.refl _ _, hg, hF⟩)
  rintro m a s ⟨i, tm, rfl, hm, f7, hK, hs, hFs⟩
  have f5 : tmA tm 5 = w := by rw [hK 5 (by decide), e5]
  have f6 : tmA tm 6 = .pointer (some ⟨n2, 0, none⟩) := by rw [hK 6 (by decide), e6]
  refine W.seq (W.seq (W.region ?_))
  iterate 2 refine WR.val rfl (by simp only [push_cast, tbH3_ty, Nat.reduceEqDiff, ↓reduceIte, f7]; rfl) ?_
  refine WR.nil (W.cond (b := decide ((i : Int) < 64)) (by simp only [push_cast, tbH3_ty, Nat.reduceEqDiff, ↓reduceIte]) (fun hb => W.skip ?_) (fun hb => W.exit ?_))
  · have hi : i < 64 := by have := of_decide_eq_true hb; omega
    have hln : (rrounds kL ws h i).length = 8 := by rw [rrounds_len, hh]
    obtain ⟨x, hx⟩ : ∃ x, x = rrounds kL ws h i := ⟨_, rfl⟩
    rw [← hx] at hs hln
    have cx : ∀ p, p < 8 → cell1 p (s.get n2) = some (.int .u32 (atI x p)) := fun p hp => by rw [hs, cell1_some, u32s_get (by omega)]
    have cw : cell1 i (s.get bw) = some (.int .u32 (atI ws i)) := by rw [hFs.old bw hbn hbw, hgw, cell1_some, u32s_get (by omega)]
    have ck : cell1 i (s.get 3) = some (.int .u32 (atI kL i)) := by rw [hFs.old 3 h3n h3, hk, cell1_some, u32s_get (by rw [kL_len]; omega)]
    refine W.seq (W.block (W.seq (W.region ?_)))
    refine WR.val rfl (by simp only [push_cast, tbH3_ty, Nat.reduceEqDiff, ↓reduceIte, f6]; rw [ix268 _ _ _ _ 4 4 rfl (by omega), Nat.zero_add]) ?_
    refine WR.val rfl (by simp only [push_cast, tbH3_ty, Nat.reduceEqDiff, ↓reduceIte]; exact ld267 _ _ _ _ (cx 4 (by omega))) ?_
    iterate 1 refine WR.val rfl (by simp only [push_cast, tbH3_ty, Nat.reduceEqDiff, ↓reduceIte]; rfl) ?_
    refine WR.nil (W.seq (W.region ?_))
    refine WR.val rfl (by simp only [push_cast, tbH3_ty, Nat.reduceEqDiff, ↓reduceIte, f6]; rw [ix268 _ _ _ _ 0 0 rfl (by omega), Nat.zero_add]) ?_
    refine WR.val rfl (by simp only [push_cast, tbH3_ty, Nat.reduceEqDiff, ↓reduceIte]; exact ld267 _ _ _ _ (cx 0 (by omega))) ?_
    iterate 1 refine WR.val rfl (by simp only [push_cast, tbH3_ty, Nat.reduceEqDiff, ↓reduceIte]; rfl) ?_
    refine WR.nil (W.seq (W.region ?_))
    iterate 1 refine WR.val rfl (by simp only [push_cast, tbH3_ty, Nat.reduceEqDiff, ↓reduceIte]; rfl) ?_
    refine WR.call rfl (by simp only [push_cast, tbH3_ty, Nat.reduceEqDiff, ↓reduceIte]; rfl) (rrot_cp _ 6 (by omega) _) ?_
    rintro _ s ⟨rfl, rfl⟩
    iterate 1 refine WR.val rfl (by simp only [push_cast, tbH3_ty, Nat.reduceEqDiff, ↓reduceIte]; rfl) ?_
    refine WR.call rfl (by simp only [push_cast, tbH3_ty, Nat.reduceEqDiff, ↓reduceIte]; rfl) (rrot_cp _ 11 (by omega) _) ?_
    rintro _ s ⟨rfl, rfl⟩
    iterate 2 refine WR.val rfl (by simp only [push_cast, tbH3_ty, Nat.reduceEqDiff, ↓reduceIte]; rfl) ?_
    refine WR.call rfl (by simp only [push_cast, tbH3_ty, Nat.reduceEqDiff, ↓reduceIte]; rfl) (rrot_cp _ 25 (by omega) _) ?_
    rintro _ s ⟨rfl, rfl⟩
    iterate 2 refine WR.val rfl (by simp only [push_cast, tbH3_ty, Nat.reduceEqDiff, ↓reduceIte]; rfl) ?_
    refine WR.nil (W.seq (W.region ?_))
    iterate 1 refine WR.val rfl (by simp only [push_cast, tbH3_ty, Nat.reduceEqDiff, ↓reduceIte]; rfl) ?_
    refine WR.val rfl (by simp only [push_cast, tbH3_ty, Nat.reduceEqDiff, ↓reduceIte, f6]; rw [ix268 _ _ _ _ 5 5 rfl (by omega), Nat.zero_add]) ?_
    refine WR.val rfl (by simp only [push_cast, tbH3_ty, Nat.reduceEqDiff, ↓reduceIte]; exact ld267 _ _ _ _ (cx 5 (by omega))) ?_
    iterate 2 refine WR.val rfl (by simp only [push_cast, tbH3_ty, Nat.reduceEqDiff, ↓reduceIte]; rfl) ?_
    refine WR.val rfl (by simp only [push_cast, tbH3_ty, Nat.reduceEqDiff, ↓reduceIte, un_xor]; rfl) ?_
    refine WR.val rfl (by simp only [push_cast, tbH3_ty, Nat.reduceEqDiff, ↓reduceIte, f6]; rw [ix268 _ _ _ _ 6 6 rfl (by omega), Nat.zero_add]) ?_
    refine WR.val rfl (by simp only [push_cast, tbH3_ty, Nat.reduceEqDiff, ↓reduceIte]; exact ld267 _ _ _ _ (cx 6 (by omega))) ?_
    iterate 3 refine WR.val rfl (by simp only [push_cast, tbH3_ty, Nat.reduceEqDiff, ↓reduceIte]; rfl) ?_
    refine WR.nil (W.seq (W.draw ?_))
    refine WD.q rfl rfl (by simp only [push_cast, tbH3_ty, Nat.reduceEqDiff, ↓reduceIte, f6]; rw [ix268 _ _ _ _ 7 7 rfl (by omega), Nat.zero_add]) ?_
    refine WD.q rfl rfl (by simp only [push_cast, tbH3_ty, Nat.reduceEqDiff, ↓reduceIte]; exact ld267 (bare _) _ _ _ (cx 7 (by omega))) ?_
    iterate 4 refine WD.q rfl rfl (by simp only [push_cast, tbH3_ty, Nat.reduceEqDiff, ↓reduceIte]; rfl) ?_
    refine WD.q rfl rfl (by simp only [push_cast, tbH3_ty, Nat.reduceEqDiff, ↓reduceIte, f7]; rfl) ?_
    refine WD.q rfl rfl (by simp only [push_cast, tbH3_ty, Nat.reduceEqDiff, ↓reduceIte]; rw [ix294 _ _ _ _ _ hi, Nat.zero_add]) ?_
    refine WD.q rfl rfl (by simp only [push_cast, tbH3_ty, Nat.reduceEqDiff, ↓reduceIte]; exact ld267 (bare _) _ _ _ ck) ?_
    iterate 1 refine WD.q rfl rfl (by simp only [push_cast, tbH3_ty, Nat.reduceEqDiff, ↓reduceIte]; rfl) ?_
    iterate 2 refine WD.q rfl rfl (by simp only [push_cast, tbH3_ty, Nat.reduceEqDiff, ↓reduceIte, f5, f7]; rfl) ?_
    refine WD.q rfl rfl (by simp only [push_cast, tbH3_ty, Nat.reduceEqDiff, ↓reduceIte]; exact hix _ _ _ hi) ?_
    refine WD.q rfl rfl (by simp only [push_cast, tbH3_ty, Nat.reduceEqDiff, ↓reduceIte]; exact ld267 (bare _) _ _ _ cw) ?_
    iterate 2 refine WD.q rfl rfl (by simp only [push_cast, tbH3_ty, Nat.reduceEqDiff, ↓reduceIte]; rfl) ?_
    refine WD.nil (W.seq (W.region ?_))
    iterate 1 refine WR.val rfl (by simp only [push_cast, tbH3_ty, Nat.reduceEqDiff, ↓reduceIte]; rfl) ?_
    refine WR.call rfl (by simp only [push_cast, tbH3_ty, Nat.reduceEqDiff, ↓reduceIte]; rfl) (rrot_cp _ 2 (by omega) _) ?_
    rintro _ s ⟨rfl, rfl⟩
    iterate 1 refine WR.val rfl (by simp only [push_cast, tbH3_ty, Nat.reduceEqDiff, ↓reduceIte]; rfl) ?_
    refine WR.call rfl (by simp only [push_cast, tbH3_ty, Nat.reduceEqDiff, ↓reduceIte]; rfl) (rrot_cp _ 13 (by omega) _) ?_
    rintro _ s ⟨rfl, rfl⟩
    iterate 2 refine WR.val rfl (by simp only [push_cast, tbH3_ty, Nat.reduceEqDiff, ↓reduceIte]; rfl) ?_
    refine WR.call rfl (by simp only [push_cast, tbH3_ty, Nat.reduceEqDiff, ↓reduceIte]; rfl) (rrot_cp _ 22 (by omega) _) ?_
    rintro _ s ⟨rfl, rfl⟩
    iterate 2 refine WR.val rfl (by simp only [push_cast, tbH3_ty, Nat.reduceEqDiff, ↓reduceIte]; rfl) ?_
    refine WR.nil (W.seq (W.region ?_))
    iterate 1 refine WR.val rfl (by simp only [push_cast, tbH3_ty, Nat.reduceEqDiff, ↓reduceIte]; rfl) ?_
    refine WR.val rfl (by simp only [push_cast, tbH3_ty, Nat.reduceEqDiff, ↓reduceIte, f6]; rw [ix268 _ _ _ _ 1 1 rfl (by omega), Nat.zero_add]) ?_
    refine WR.val rfl (by simp only [push_cast, tbH3_ty, Nat.reduceEqDiff, ↓reduceIte]; exact ld267 _ _ _ _ (cx 1 (by omega))) ?_
    iterate 2 refine WR.val rfl (by simp only [push_cast, tbH3_ty, Nat.reduceEqDiff, ↓reduceIte]; rfl) ?_
    refine WR.val rfl (by simp only [push_cast, tbH3_ty, Nat.reduceEqDiff, ↓reduceIte, f6]; rw [ix268 _ _ _ _ 2 2 rfl (by omega), Nat.zero_add]) ?_
    refine WR.val rfl (by simp only [push_cast, tbH3_ty, Nat.reduceEqDiff, ↓reduceIte]; exact ld267 _ _ _ _ (cx 2 (by omega))) ?_
    iterate 2 refine WR.val rfl (by simp only [push_cast, tbH3_ty, Nat.reduceEqDiff, ↓reduceIte]; rfl) ?_
    refine WR.val rfl (by simp only [push_cast, tbH3_ty, Nat.reduceEqDiff, ↓reduceIte, f6]; rw [ix268 _ _ _ _ 1 1 rfl (by omega), Nat.zero_add]) ?_
    refine WR.val rfl (by simp only [push_cast, tbH3_ty, Nat.reduceEqDiff, ↓reduceIte]; exact ld267 _ _ _ _ (cx 1 (by omega))) ?_
    refine WR.val rfl (by simp only [push_cast, tbH3_ty, Nat.reduceEqDiff, ↓reduceIte, f6]; rw [ix268 _ _ _ _ 2 2 rfl (by omega), Nat.zero_add]) ?_
    refine WR.val rfl (by simp only [push_cast, tbH3_ty, Nat.reduceEqDiff, ↓reduceIte]; exact ld267 _ _ _ _ (cx 2 (by omega))) ?_
    iterate 3 refine WR.val rfl (by simp only [push_cast, tbH3_ty, Nat.reduceEqDiff, ↓reduceIte]; rfl) ?_
    refine WR.nil (W.seq (W.seq (W.region ?_)))
    refine WR.val rfl (by simp only [push_cast, tbH3_ty, Nat.reduceEqDiff, ↓reduceIte]; rfl) (WR.nil ?_)
    refine rchg_shift sB n2 hn x hln _ s _ ?_ ?_ hs hFs ?_
    · simp only [push_cast, tbH3_ty, Nat.reduceEqDiff, ↓reduceIte, f6]
    · simp only [push_cast, tbH3_ty, Nat.reduceEqDiff, ↓reduceIte]
    intro tm1 s1 hK1 hs1 hF1
    have k6 : tmA tm1 6 = .pointer (some ⟨n2, 0, none⟩) := by
      rw [hK1 6 (by decide)]
      simp only [push_cast, tbH3_ty, Nat.reduceEqDiff, ↓reduceIte, f6]
    have k12 : tmA tm1 12 = .int .u32 (rT x (atI kL i) (atI ws i)) := by
      rw [hK1 12 (by decide)]
      simp only [push_cast, tbH3_ty, Nat.reduceEqDiff, ↓reduceIte]
      rfl
    have k13 : tmA tm1 13 = .int .u32 (rS (atI x 0) 2 13 22) := by
      rw [hK1 13 (by decide)]
      simp only [push_cast, tbH3_ty, Nat.reduceEqDiff, ↓reduceIte]
      rfl
    have k14 : tmA tm1 14 = .int .u32 (xorW (xorW (andW (atI x 0) (atI x 1)) (andW (atI x 0) (atI x 2))) (andW (atI x 1) (atI x 2))) := by
      rw [hK1 14 (by decide)]
      simp only [push_cast, tbH3_ty, Nat.reduceEqDiff, ↓reduceIte]
      rfl
    have k7 : tmA tm1 7 = .int .i64 (i : Int) := by
      rw [hK1 7 (by decide)]
      simp only [push_cast, tbH3_ty, Nat.reduceEqDiff, ↓reduceIte, f7]
    have hl1 : (rshift x 7).length = 8 := by rw [rshift_len, hln]
    refine W.seq (W.region ?_)
    refine WR.val rfl (by simp only [push_cast, tbH3_ty, Nat.reduceEqDiff, ↓reduceIte, k6]; rw [ix268 _ _ _ _ 4 4 rfl (by omega), Nat.zero_add]) ?_
    refine WR.val rfl (by simp only [push_cast, tbH3_ty, Nat.reduceEqDiff, ↓reduceIte]; exact ld267 _ _ _ (.int .u32 (atI (rshift x 7) 4)) (by rw [hs1, cell1_some, u32s_get (by omega)])) ?_
    iterate 2 refine WR.val rfl (by simp only [push_cast, tbH3_ty, Nat.reduceEqDiff, ↓reduceIte, k12]; rfl) ?_
    refine WR.val rfl (by simp only [push_cast, tbH3_ty, Nat.reduceEqDiff, ↓reduceIte, k6]; rw [ix268 _ _ _ _ 4 4 rfl (by omega), Nat.zero_add]) ?_
    refine WR.do rfl (by simp only [push_cast, tbH3_ty, Nat.reduceEqDiff, ↓reduceIte]; exact st267 _ _ _ (rshift x 7) _ hs1 (by omega)) ?_
    refine WR.nil (W.region ?_)
    iterate 5 refine WR.val rfl (by simp only [push_cast, tbH3_ty, Nat.reduceEqDiff, ↓reduceIte, k12, k13, k14]; rfl) ?_
    refine WR.val rfl (by simp only [push_cast, tbH3_ty, Nat.reduceEqDiff, ↓reduceIte, k6]; rw [ix268 _ _ _ _ 0 0 rfl (by omega), Nat.zero_add]) ?_
    refine WR.do rfl (by simp only [push_cast, tbH3_ty, Nat.reduceEqDiff, ↓reduceIte]; exact st267 _ _ _ _ _ (St.get_upd_self _ _ _) (by rw [List.length_set]; omega)) ?_
    refine WR.nil (W.region ?_)
    iterate 3 refine WR.val rfl (by simp only [push_cast, tbH3_ty, Nat.reduceEqDiff, ↓reduceIte, k7]; rfl) ?_
    have hlt := Nat.lt_of_lt_of_le hn hF1.next
    refine WR.nil ⟨m - 1, by omega, i + 1, _, rfl, by omega, ?_, ?_, ?_, (hF1.upd _ (.inl rfl) hlt).upd _ (.inl rfl) hlt⟩
    · simp only [push_cast, Nat.reduceEqDiff, ↓reduceIte]
      rw [show ((i : Int) + 1) = ((i + 1 : Nat) : Int) from by omega, i64_in _ (by omega)]
    · simp only [push_cast]
      repeat refine Keep.set ?_ (by decide)
      refine Keep.trans ?_ hK1 (by decide)
      simp only [push_cast]
      repeat refine Keep.set ?_ (by decide)
      exact hK
    · rw [St.get_upd_self, rrounds, ← hx]; rfl
  · have hj : i = 64 := by have := of_decide_eq_false hb; omega
    subst hj
    refine k _ s ?_ hs hFs
    simp only [push_cast]
    repeat refine Keep.set ?_ (by decide)
    exact hK
end Go.Proofs.Ae
namespace Go.Proofs.Ae
open Go.Proofs
set_option maxHeartbeats 4000000
def keep14 : List Nat := [16, 105, 106, 107, 108, 109, 110, 111, 112, 113, 114, 115, 116, 117]
theorem rchg_add (sB : St) (hokB : sB.Ok) (n0 n2 : Nat) (hn : n0 < sB.next) (hne : n2 ≠ n0) (h x : List Int) (hx : x.length = 8) (hh : h.length = 8) (a0 : AA) (sA : St) (Q : AX → AA → St → Prop)
    (hx2 : sB.get n2 = some (.cells (u32s x) .exact)) (e2 : tmA a0.tm 2 = .pointer (some ⟨n0, 0, none⟩)) (e6 : tmA a0.tm 6 = .pointer (some ⟨n2, 0, none⟩)) (e16 : tmA a0.tm 16 = .int .i64 0) (hg : sA.get n0 = some (.cells (u32s h) .exact)) (hF : Fm (Is1 n0) sB sA)
    (k : ∀ tm s, Keep keep14 a0.tm tm → s.get n0 = some (.cells (u32s (addW h x 8)) .exact) → Fm (Is1 n0) sB s → Q .normal ⟨tm, a0.df, a0.rnd, a0.fid⟩ s) :
    W tbH3 (.block 4 (.loop (.seq (.seq (.region 20 rchg_20 false) (.cond (.tmp 106) .skip (.exit 4))) (.seq (.block 5 (.region 22 rchg_21 true)) (.region 21 rchg_22 false))))) a0 sA Q := by
  refine W.block (W.loop (fun m a s => ∃ (j : Nat) (tm : Tr Value), a = ⟨tm, a0.df, a0.rnd, a0.fid⟩ ∧ j + m = 8 ∧ tmA tm 16 = .int .i64 (j : Int) ∧ Keep keep14 a0.tm tm ∧ s.get n0 = some (.cells (u32s (addW h x j)) .exact) ∧ Fm (Is1 n0) sB s) ?_ 8 a0 sA ⟨0, a0.tm, rfl, rfl, e16, Keep.refl _ _, hg, hF⟩)
  rintro m a s ⟨i, tm, rfl, hm, f16, hK, hs, hFs⟩
  have f2 : tmA tm 2 = .pointer (some ⟨n0, 0, none⟩) := by rw [hK 2 (by decide), e2]
  have f6 : tmA tm 6 = .pointer (some ⟨n2, 0, none⟩) := by rw [hK 6 (by decide), e6]
  have h2n : n2 < sB.next := hokB _ (hdom_of hx2)
  refine W.seq (W.seq (W.region ?_))
  iterate 2 refine WR.val rfl (by simp only [push_cast, tbH3_ty, Nat.reduceEqDiff, ↓reduceIte, f16]; rfl) ?_
  refine WR.nil (W.cond (b := decide ((i : Int) < 8)) (by simp only [push_cast, tbH3_ty, Nat.reduceEqDiff, ↓reduceIte]) (fun hb => W.skip ?_) (fun hb => W.exit ?_))
  · have hi : i < 8 := by have := of_decide_eq_true hb; omega
    have hl := addW_len h x i
    have cx : cell1 i (s.get n2) = some (.int .u32 (atI x i)) := by rw [hFs.old n2 h2n hne, hx2, cell1_some, u32s_get (by omega)]
    have ch : cell1 i (s.get n0) = some (.int .u32 (atI (addW h x i) i)) := by rw [hs, cell1_some, u32s_get (by omega)]
    refine W.seq (W.block (W.draw ?_))
    iterate 2 refine WD.q rfl rfl (by simp only [push_cast, tbH3_ty, Nat.reduceEqDiff, ↓reduceIte, f16]; rfl) ?_
    refine WD.q rfl rfl (by simp only [push_cast, tbH3_ty, Nat.reduceEqDiff, ↓reduceIte, f2]; rw [ix268 _ _ _ _ _ i rfl hi, Nat.zero_add]) ?_
    refine WD.q rfl rfl (by simp only [push_cast, tbH3_ty, Nat.reduceEqDiff, ↓reduceIte]; exact ld267 (bare _) _ _ _ ch) ?_
    refine WD.q rfl rfl (by simp only [push_cast, tbH3_ty, Nat.reduceEqDiff, ↓reduceIte, f16]; rfl) ?_
    refine WD.q rfl rfl (by simp only [push_cast, tbH3_ty, Nat.reduceEqDiff, ↓reduceIte, f6]; rw [ix268 _ _ _ _ _ i rfl hi, Nat.zero_add]) ?_
    refine WD.q rfl rfl (by simp only [push_cast, tbH3_ty, Nat.reduceEqDiff, ↓reduceIte]; exact ld267 (bare _) _ _ _ cx) ?_
    refine WD.q rfl rfl (by simp only [push_cast, tbH3_ty, Nat.reduceEqDiff, ↓reduceIte]; rfl) ?_
    refine WD.q rfl rfl (by simp only [push_cast, tbH3_ty, Nat.reduceEqDiff, ↓reduceIte, f2]; rw [ix268 _ _ _ _ _ i rfl hi, Nat.zero_add]) ?_
    refine WD.do rfl rfl (by simp only [push_cast, tbH3_ty, Nat.reduceEqDiff, ↓reduceIte]; exact st267 (bare _) _ _ (addW h x i) _ hs (by omega)) rfl ?_ (WD.nil ?_)
    · repeat refine apartB_tag (by rfl) ?_
      exact apartB_nil _ _
    rw [join_upd]
    refine W.region ?_
    iterate 3 refine WR.val rfl (by simp only [push_cast, tbH3_ty, Nat.reduceEqDiff, ↓reduceIte, f16]; rfl) ?_
    refine WR.nil ⟨m - 1, by omega, i + 1, _, rfl, by omega, ?_, ?_, ?_, hFs.upd _ (.inl rfl) (Nat.lt_of_lt_of_le hn hFs.next)⟩
    · simp only [push_cast, Nat.reduceEqDiff, ↓reduceIte]
      rw [show ((i : Int) + 1) = ((i + 1 : Nat) : Int) from by omega, i64_in _ (by omega)]
    · simp only [push_cast]
      repeat refine Keep.set ?_ (by decide)
      exact hK
    · rw [St.get_upd_self]; rfl
  · have hj : i = 8 := by have := of_decide_eq_false hb; omega
    subst hj
    refine k _ s ?_ hs hFs
    simp only [push_cast]
    repeat refine Keep.set ?_ (by decide)
    exact hK
theorem BW.mono {n0 : Nat} {s s' : St} {v : Value} {l : List Int} (k : BW n0 s v l) (h : ∀ i, hdom s.get i → s'.get i = s.get i) : BW n0 s' v l := by
  cases k with
  | nil => exact .nil
  | «at» b l hb hg => exact .at b l hb (by rw [h b (hdom_of hg), hg])
def rchgW (h bs : List Int) : List Int := addW h (rrounds kL (rgrow (rws bs 16) 48) h 64) 8
theorem rchg_C (s : St) (hok : s.Ok) (b o cap : Nat) (h bs : List Int) (hh : h.length = 8) (hl : bs.length = 64) (hB : BytesAt s b o bs) (hk : s.get 3 = some (.cells (u32s kL) .ro)) :
    CP tbH3 164 [.agg (u32s h).toArray, .slice (some ⟨b, o, none⟩) 64 cap] s (fun v s' => v = .agg (u32s (rchgW h bs)).toArray ∧ Fm Nil0 s s') := by
  refine CP.of rfl (by kernel_rfl) rchg_body (Nat.le_of_ble_eq_true rfl) ?_
  have e0 : tmA (argsTr [.agg (u32s h).toArray, .slice (some ⟨b, o, none⟩) 64 cap] 0 .nil) 0 = .agg (u32s h).toArray := rfl
  have e1 : tmA (argsTr [.agg (u32s h).toArray, .slice (some ⟨b, o, none⟩) 64 cap] 0 .nil) 1 = .slice (some ⟨b, o, none⟩) 64 cap := rfl
  generalize argsTr [.agg (u32s h).toArray, .slice (some ⟨b, o, none⟩) 64 cap] 0 .nil = t0 at e0 e1 ⊢
  have h3 : 3 < s.next := hok _ (hdom_of hk)
  have hb : b < s.next := by obtain ⟨c, m, hc, _⟩ := hB; exact hok _ (hdom_of hc)
  obtain ⟨ti287, t287, d287, z287, zz287⟩ := ty268
  have hokb : (bare s).Ok := hok
  obtain ⟨ws, hws⟩ : ∃ ws, ws = rgrow (rws bs 16) 48 := ⟨_, rfl⟩
  have hwl : ws.length = 64 := by rw [hws, rgrow_len, rws_len]
  obtain ⟨x, hx⟩ : ∃ x, x = rrounds kL ws h 64 := ⟨_, rfl⟩
  have hxl : x.length = 8 := by rw [hx, rrounds_len, hh]
  obtain ⟨r, hr⟩ : ∃ r, r = addW h x 8 := ⟨_, rfl⟩
  have hrl : r.length = 8 := by rw [hr, addW_len, hh]
  have hrr : rchgW h bs = r := by rw [rchgW, ← hws, ← hx, ← hr]
  rw [hrr]
  clear hrr
  refine W.seq (W.region ?_)
  refine WR.val rfl (by simp only [push_cast, tbH3_ty, Nat.reduceEqDiff, ↓reduceIte, e0, cells_agg]; rfl) ?_
  refine WR.val rfl (by simp only [push_cast, tbH3_ty, Nat.reduceEqDiff, ↓reduceIte, t287, zz287]; rfl) (WR.nil ?_)
  obtain ⟨s1, hs1⟩ : ∃ s1, s1 = ((bare s).alloc (.cells (u32s h) .exact)).alloc (.cells (u32s [0, 0, 0, 0, 0, 0, 0, 0]) .exact) := ⟨_, rfl⟩
  have hF1 : Fm Nil0 (bare s) s1 := by rw [hs1]; exact ((Fm.refl hokb).alloc _).alloc _
  have g0 : s1.get s.next = some (.cells (u32s h) .exact) := by rw [hs1, St.get_alloc_ne _ _ _ (by show s.next ≠ s.next + 1; omega)]; exact St.get_alloc_self _ _
  have g1 : s1.get (s.next + 1) = some (.cells (u32s [0, 0, 0, 0, 0, 0, 0, 0]) .exact) := by rw [hs1]; exact St.get_alloc_self _ _
  have hn1 : s1.next = s.next + 2 := by rw [hs1]; rfl
  rw [← hs1]
  refine W.seq (W.region ?_)
  refine WR.val rfl (by simp only [push_cast, tbH3_ty, Nat.reduceEqDiff, ↓reduceIte, e1]; rfl) ?_
  refine WR.call rfl (by simp only [push_cast, tbH3_ty, Nat.reduceEqDiff, ↓reduceIte]; rfl) (rspr_C s1 hF1.ok b o cap bs hl (hB.mono (hF1.old b hb (by simp [Nil0])))) ?_
  rintro w s2 ⟨hW, hF2⟩
  rw [← hws] at hW
  clear hws
  refine WR.val rfl (by simp only [push_cast, tbH3_ty, Nat.reduceEqDiff, ↓reduceIte]; rfl) (WR.nil ?_)
  have hF12 : Fm Nil0 (bare s) s2 := hF1.trans hF2 (fun _ h => h.elim)
  have q0 : s2.get s.next = some (.cells (u32s h) .exact) := by rw [hF2.old _ (by omega) (by simp [Nil0]), g0]
  have q1 : s2.get (s.next + 1) = some (.cells (u32s [0, 0, 0, 0, 0, 0, 0, 0]) .exact) := by rw [hF2.old _ (by omega) (by simp [Nil0]), g1]
  have q3 : s2.get 3 = some (.cells (u32s kL) .ro) := by rw [hF12.old 3 h3 (by simp [Nil0])]; exact hk
  have hn2 := hF2.next
  refine W.seq (W.region ?_)
  refine WR.val rfl (by simp only [push_cast, tbH3_ty, Nat.reduceEqDiff, ↓reduceIte]; exact ld268 _ _ h _ q0 hh) ?_
  refine WR.val rfl (by simp only [push_cast, tbH3_ty, Nat.reduceEqDiff, ↓reduceIte, t287, zz287]; rfl) ?_
  refine WR.do rfl (by simp only [push_cast, tbH3_ty, Nat.reduceEqDiff, ↓reduceIte]; exact st268 _ _ [0, 0, 0, 0, 0, 0, 0, 0] h (St.get_alloc_self _ _) rfl hh) (WR.nil ?_)
  obtain ⟨sB, hsB⟩ : ∃ sB, sB = (s2.alloc (.cells (u32s [0, 0, 0, 0, 0, 0, 0, 0]) .exact)).upd s2.next (.cells (u32s h) .exact) := ⟨_, rfl⟩
  have hFB : Fm Nil0 s2 sB := by rw [hsB]; exact ((Fm.refl hF2.ok).alloc _).upd _ (.inr (Nat.le_refl _)) (by simp)
  have hFsB : Fm Nil0 (bare s) sB := hF12.trans hFB (fun _ h => h.elim)
  have gB : sB.get s2.next = some (.cells (u32s h) .exact) := by rw [hsB, St.get_upd_self]
  have hnB : s2.next < sB.next := by rw [hsB]; simp
  have oB : ∀ i, i < s2.next → sB.get i = s2.get i := fun i hi => hFB.old i hi (by simp [Nil0])
  have hWB : BW s1.next sB w ws := hW.mono fun i hi => oB i (hF2.ok i hi)
  rw [← hsB]
  refine W.seq (W.seq (W.region ?_))
  refine WR.val rfl (by simp only [push_cast, tbH3_ty, Nat.reduceEqDiff, ↓reduceIte]; rfl) (WR.nil ?_)
  refine rchg_rounds sB hFB.ok s2.next hnB h ws hh hwl s1.next w hWB (fun bb hbb e => by subst e; rw [gB] at hbb; injection hbb with e1; injection e1 with _ e2; cases e2) (by rw [oB 3 (by omega), q3]) (by omega) _ sB _ ?_ ?_ ?_ gB (Fm.refl hFB.ok) ?_
  · simp only [push_cast, tbH3_ty, Nat.reduceEqDiff, ↓reduceIte]
  · simp only [push_cast, tbH3_ty, Nat.reduceEqDiff, ↓reduceIte]
  · simp only [push_cast, tbH3_ty, Nat.reduceEqDiff, ↓reduceIte]
  intro tm1 sC hK1 gC hFC
  rw [← hx] at gC
  clear hx
  have k2 : tmA tm1 2 = .pointer (some ⟨s.next, 0, none⟩) := by
    rw [hK1 2 (by decide)]
    simp only [push_cast, tbH3_ty, Nat.reduceEqDiff, ↓reduceIte]; rfl
  have k4 : tmA tm1 4 = .pointer (some ⟨s.next + 1, 0, none⟩) := by
    rw [hK1 4 (by decide)]
    simp only [push_cast, tbH3_ty, Nat.reduceEqDiff, ↓reduceIte]; rfl
  have k6 : tmA tm1 6 = .pointer (some ⟨s2.next, 0, none⟩) := by
    rw [hK1 6 (by decide)]
    simp only [push_cast, tbH3_ty, Nat.reduceEqDiff, ↓reduceIte]
  have hFsC : Fm Nil0 (bare s) sC := hFsB.trans hFC (fun i h => .inr (by rw [show i = s2.next from h]; show s.next ≤ s2.next; omega))
  have hnC := hFC.next
  have r0 : sC.get s.next = some (.cells (u32s h) .exact) := by rw [hFC.old _ (by omega) (by show ¬ s.next = s2.next; omega), oB _ (by omega), q0]
  refine W.seq (W.seq (W.region ?_))
  refine WR.val rfl (by simp only [push_cast, tbH3_ty, Nat.reduceEqDiff, ↓reduceIte]; rfl) (WR.nil ?_)
  refine rchg_add sC hFC.ok s.next s2.next (by omega) (by omega) h x hxl hh _ sC _ gC ?_ ?_ ?_ r0 (Fm.refl hFC.ok) ?_
  · simp only [push_cast, tbH3_ty, Nat.reduceEqDiff, ↓reduceIte, k2]
  · simp only [push_cast, tbH3_ty, Nat.reduceEqDiff, ↓reduceIte, k6]
  · simp only [push_cast, tbH3_ty, Nat.reduceEqDiff, ↓reduceIte]
  intro tm2 sD hK2 gD hFD
  rw [← hr] at gD
  clear hr
  have j2 : tmA tm2 2 = .pointer (some ⟨s.next, 0, none⟩) := by
    rw [hK2 2 (by decide)]
    simp only [push_cast, tbH3_ty, Nat.reduceEqDiff, ↓reduceIte, k2]
  have j4 : tmA tm2 4 = .pointer (some ⟨s.next + 1, 0, none⟩) := by
    rw [hK2 4 (by decide)]
    simp only [push_cast, tbH3_ty, Nat.reduceEqDiff, ↓reduceIte, k4]
  have hnD := hFD.next
  have u1 : sD.get (s.next + 1) = some (.cells (u32s [0, 0, 0, 0, 0, 0, 0, 0]) .exact) := by
    rw [hFD.old _ (by omega) (by show ¬ s.next + 1 = s.next; omega), hFC.old _ (by omega) (by show ¬ s.next + 1 = s2.next; omega), oB _ (by omega), q1]
  have hFsD : Fm Nil0 (bare s) sD := hFsC.trans hFD (fun i h => .inr (by rw [show i = s.next from h]; exact Nat.le_refl _))
  refine W.seq (W.region ?_)
  refine WR.val rfl (by simp only [push_cast, tbH3_ty, Nat.reduceEqDiff, ↓reduceIte, j2]; exact ld268 _ _ _ _ gD hrl) ?_
  refine WR.do rfl (by simp only [push_cast, tbH3_ty, Nat.reduceEqDiff, ↓reduceIte, j4]; exact st268 _ _ _ _ u1 rfl hrl) (WR.nil ?_)
  have hFE : Fm Nil0 (bare s) (sD.upd (s.next + 1) (.cells (u32s (r)) .exact)) := hFsD.upd _ (.inr (by show s.next ≤ _; omega)) (by omega)
  refine W.ret ⟨.inr rfl, rfl, [.agg (u32s (r)).toArray], ?_, rfl, hFE.keep hok⟩
  rw [show Tryz.f164.results.toList = [.cell 4 268] from rfl]
  refine res_cell _ _ _ _ _ ⟨s.next + 1, 0, none⟩ ti287 _ (by simp only [push_cast, tbH3_ty, Nat.reduceEqDiff, ↓reduceIte, j4]) (by rw [tbH3_ty, t287]) ?_
  exact load_arr ti287 8 267 _ _ _ _ d287 (by rw [z287, u32s_len, hrl]) (St.get_upd_self _ _ _)
end Go.Proofs.Ae
