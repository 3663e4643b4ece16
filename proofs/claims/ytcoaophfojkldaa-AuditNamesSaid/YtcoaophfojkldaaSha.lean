/-
  The digest in plain Lean: words turned, a block taken in, bytes made longer. No program in sight.
-/
namespace Go.Sha
/-- A word turned right. -/
def rot (x : UInt32) (n : Nat) : UInt32 := UInt32.ofNat (x.toNat / 2 ^ n) ||| UInt32.ofNat (x.toNat * 2 ^ (32 - n))
def shr (x : UInt32) (n : Nat) : UInt32 := UInt32.ofNat (x.toNat / 2 ^ n)
def h0 : List UInt32 := [0x6a09e667, 0xbb67ae85, 0x3c6ef372, 0xa54ff53a, 0x510e527f, 0x9b05688c, 0x1f83d9ab, 0x5be0cd19]
def ks : List UInt32 := [
  0x428a2f98, 0x71374491, 0xb5c0fbcf, 0xe9b5dba5, 0x3956c25b, 0x59f111f1, 0x923f82a4, 0xab1c5ed5,
  0xd807aa98, 0x12835b01, 0x243185be, 0x550c7dc3, 0x72be5d74, 0x80deb1fe, 0x9bdc06a7, 0xc19bf174,
  0xe49b69c1, 0xefbe4786, 0x0fc19dc6, 0x240ca1cc, 0x2de92c6f, 0x4a7484aa, 0x5cb0a9dc, 0x76f988da,
  0x983e5152, 0xa831c66d, 0xb00327c8, 0xbf597fc7, 0xc6e00bf3, 0xd5a79147, 0x06ca6351, 0x14292967,
  0x27b70a85, 0x2e1b2138, 0x4d2c6dfc, 0x53380d13, 0x650a7354, 0x766a0abb, 0x81c2c92e, 0x92722c85,
  0xa2bfe8a1, 0xa81a664b, 0xc24b8b70, 0xc76c51a3, 0xd192e819, 0xd6990624, 0xf40e3585, 0x106aa070,
  0x19a4c116, 0x1e376c08, 0x2748774c, 0x34b0bcb5, 0x391c0cb3, 0x4ed8aa4a, 0x5b9cca4f, 0x682e6ff3,
  0x748f82ee, 0x78a5636f, 0x84c87814, 0x8cc70208, 0x90befffa, 0xa4506ceb, 0xbef9a3f7, 0xc67178f2]
/-- A byte's place in a word. -/
def put (x : UInt8) (n : Nat) : UInt32 := UInt32.ofNat ((UInt32.ofNat x.toNat).toNat * 2 ^ n)
def word (b : List UInt8) (at_ : Nat) : UInt32 := put (b.getD at_ 0) 24 ||| put (b.getD (at_ + 1) 0) 16 ||| put (b.getD (at_ + 2) 0) 8 ||| UInt32.ofNat (b.getD (at_ + 3) 0).toNat
def sig0 (x : UInt32) : UInt32 := rot x 7 ^^^ rot x 18 ^^^ shr x 3
def sig1 (x : UInt32) : UInt32 := rot x 17 ^^^ rot x 19 ^^^ shr x 10
/-- The next word of a block's 64. -/
def next (b : List UInt8) (l : List UInt32) : UInt32 :=
  if l.length < 16 then word b (4 * l.length)
  else l.getD (l.length - 16) 0 + sig0 (l.getD (l.length - 15) 0) + l.getD (l.length - 7) 0 + sig1 (l.getD (l.length - 2) 0)
def ws (b : List UInt8) : Nat → List UInt32
  | 0 => []
  | n + 1 => ws b n ++ [next b (ws b n)]
theorem ws_len (b : List UInt8) : ∀ n, (ws b n).length = n
  | 0 => rfl
  | n + 1 => by rw [ws, List.length_append, ws_len b n]; rfl
def Sig0 (x : UInt32) : UInt32 := rot x 2 ^^^ rot x 13 ^^^ rot x 22
def Sig1 (x : UInt32) : UInt32 := rot x 6 ^^^ rot x 11 ^^^ rot x 25
def t1 (v : List UInt32) (k w : UInt32) : UInt32 := v.getD 7 0 + Sig1 (v.getD 4 0) + ((v.getD 4 0 &&& v.getD 5 0) ^^^ (~~~ v.getD 4 0 &&& v.getD 6 0)) + k + w
def t2 (v : List UInt32) : UInt32 := Sig0 (v.getD 0 0) + ((v.getD 0 0 &&& v.getD 1 0) ^^^ (v.getD 0 0 &&& v.getD 2 0) ^^^ (v.getD 1 0 &&& v.getD 2 0))
def step (v : List UInt32) (k w : UInt32) : List UInt32 :=
  [t1 v k w + t2 v, v.getD 0 0, v.getD 1 0, v.getD 2 0, v.getD 3 0 + t1 v k w, v.getD 4 0, v.getD 5 0, v.getD 6 0]
/-- The first 'n' steps. -/
def steps (b : List UInt8) (h : List UInt32) : Nat → List UInt32
  | 0 => h
  | n + 1 => step (steps b h n) (ks.getD n 0) ((ws b 64).getD n 0)
theorem steps_len (b : List UInt8) {h : List UInt32} (hh : h.length = 8) : ∀ n, (steps b h n).length = 8
  | 0 => hh
  | _ + 1 => rfl
def addL (h x : List UInt32) : List UInt32 := (List.range 8).map fun i => h.getD i 0 + x.getD i 0
/-- A block of 64 bytes taken in. -/
def mix (h : List UInt32) (b : List UInt8) : List UInt32 := addL h (steps b h 64)
theorem mix_len (h : List UInt32) (b : List UInt8) : (mix h b).length = 8 := by simp [mix, addL]
/-- The bytes made longer. -/
def padN (n : Nat) : Nat := (119 - n % 64) % 64
def longer (b : List UInt8) : List UInt8 := b ++ [0x80] ++ List.replicate (padN b.length) 0 ++ (List.range 8).map fun i => UInt8.ofNat (UInt64.ofNat ((UInt64.ofNat b.length * 8).toNat / 2 ^ (56 - 8 * i))).toNat
def blocks (l : List UInt8) (h : List UInt32) : Nat → List UInt32
  | 0 => h
  | n + 1 => mix (blocks l h n) ((l.drop (64 * n)).take 64)
def out (h : List UInt32) : List UInt8 := (List.range 32).map fun i => UInt8.ofNat (UInt32.ofNat ((h.getD (i / 4) 0).toNat / 2 ^ (24 - 8 * (i % 4)))).toNat
def sum (b : List UInt8) : List UInt8 := out (blocks (longer b) h0 ((longer b).length / 64))
theorem sum_len (b : List UInt8) : (sum b).length = 32 := by simp [sum, out]
example : sum [97, 98, 99] = [186, 120, 22, 191, 143, 1, 207, 234, 65, 65, 64, 222, 93, 174, 34, 35, 176, 3, 97, 163, 150, 23, 122, 156, 180, 16, 255, 97, 242, 0, 21, 173] := by decide +kernel
/-! ## Small steps -/
theorem and31 : ∀ n : Fin 31, ((UInt64.ofNat ((-((n.val + 1 : Nat) : Int)) % 18446744073709551616).toNat) &&& 31).toNat = 32 - (n.val + 1) := by decide +kernel
theorem or_comm32 (a b : UInt32) : a ||| b = b ||| a := by
  apply UInt32.toNat.inj
  rw [UInt32.toNat_or, UInt32.toNat_or, Nat.or_comm]

theorem addL_len (h x : List UInt32) : (addL h x).length = 8 := by simp [addL]
theorem addL_get {h x : List UInt32} {j : Nat} (hj : j < 8) : (addL h x).getD j 0 = h.getD j 0 + x.getD j 0 := by
  rw [List.getD_eq_getElem?_getD, addL, List.getElem?_map, List.getElem?_range hj]; rfl
theorem upd {h m : List UInt32} (hh : h.length = 8) (hm : m.length = 8) {j : Nat} (hj : j < 8) : (m.take j ++ h.drop j).set j (m.getD j 0) = m.take (j + 1) ++ h.drop (j + 1) := by
  have e : h.drop j = h[j] :: h.drop (j + 1) := List.drop_eq_getElem_cons (by omega)
  have e2 : m.take (j + 1) = m.take j ++ [m.getD j 0] := by
    rw [List.take_add_one, List.getD_eq_getElem?_getD, List.getElem?_eq_getElem (by omega)]; rfl
  have e3 : j - (m.take j).length = 0 := by simp; omega
  rw [List.set_append, if_neg (by simp; omega), e3, e, List.set_cons_zero, e2, List.append_assoc]; rfl
theorem mid {h m : List UInt32} (hh : h.length = 8) (hm : m.length = 8) {j : Nat} (hj : j < 8) : (m.take j ++ h.drop j)[j]? = some (h.getD j 0) := by
  rw [List.getElem?_append_right (by simp; omega), List.getElem?_drop, show j + (j - (m.take j).length) = j by simp; omega, List.getD_eq_getElem?_getD, List.getElem?_eq_getElem (by omega)]; rfl

/-! ## Bytes made longer -/
def tb (n : Nat) (i : Nat) : UInt8 := UInt8.ofNat (UInt64.ofNat ((UInt64.ofNat n * 8).toNat / 2 ^ (56 - 8 * i))).toNat
theorem longer_eq (b : List UInt8) : longer b = b ++ [0x80] ++ List.replicate (padN b.length) 0 ++ (List.range 8).map (tb b.length) := rfl
theorem longer_eq' {b : List UInt8} {z : Nat} (hz : z = padN b.length) : longer b = b ++ [128] ++ List.replicate z 0 ++ (List.range 8).map (tb b.length) := by subst hz; rfl
theorem padN_lt (n : Nat) : padN n < 64 := Nat.mod_lt _ (by decide)
theorem pad_go {n z : Nat} (hz : z ≤ padN n) (h : (n + 1 + z) % 64 ≠ 56) : z < padN n := by unfold padN at *; omega
theorem pad_end {n z : Nat} (hz : z ≤ padN n) (h : (n + 1 + z) % 64 = 56) : z = padN n := by unfold padN at *; omega
theorem longer_len (b : List UInt8) : (longer b).length = b.length + 1 + padN b.length + 8 := by simp [longer]; omega
theorem longer_64 (b : List UInt8) : (longer b).length = 64 * ((longer b).length / 64) := by
  have h := longer_len b
  unfold padN at h
  omega
theorem sh_u64 {i : Nat} (h : i ≤ 7) : ((8 : UInt64) * UInt64.ofNat i).toNat = 8 * i := by
  rw [UInt64.toNat_mul, UInt64.toNat_ofNat']
  show 8 * (i % 2 ^ 64) % 2 ^ 64 = _
  omega
theorem sh_u32 {i : Nat} (h : i ≤ 3) : ((24 : UInt32) - 8 * UInt32.ofNat i).toNat = 24 - 8 * i := by
  have e : ((8 : UInt32) * UInt32.ofNat i).toNat = 8 * i := by
    rw [UInt32.toNat_mul, UInt32.toNat_ofNat']
    show 8 * (i % 2 ^ 32) % 2 ^ 32 = _
    omega
  rw [UInt32.toNat_sub_of_le _ _ (by rw [UInt32.le_iff_toNat_le, e]; show 8 * i ≤ 24; omega), e]; rfl
theorem blocks_len (l : List UInt8) {h : List UInt32} (hh : h.length = 8) : ∀ n, (blocks l h n).length = 8
  | 0 => hh
  | n + 1 => mix_len _ _
def ob (h : List UInt32) (i : Nat) : UInt8 := UInt8.ofNat (UInt32.ofNat ((h.getD (i / 4) 0).toNat / 2 ^ (24 - 8 * (i % 4)))).toNat
theorem out_eq (h : List UInt32) : out h = (List.range 32).map (ob h) := rfl

theorem take_getD {l : List UInt8} {k j : Nat} (h : j < k) : (l.take k).getD j 0 = l.getD j 0 := by
  rw [List.getD_eq_getElem?_getD, List.getElem?_take, if_pos h, List.getD_eq_getElem?_getD]
theorem ws_take (l : List UInt8) : ∀ n, ws (l.take 64) n = ws l n
  | 0 => rfl
  | n + 1 => by
    have e : next (l.take 64) (ws l n) = next l (ws l n) := by
      unfold next
      by_cases h : (ws l n).length < 16
      · rw [if_pos h, if_pos h]
        unfold word
        rw [take_getD (by omega), take_getD (by omega), take_getD (by omega), take_getD (by omega)]
      · rw [if_neg h, if_neg h]
    rw [ws, ws, ws_take l n, e]
theorem steps_take (l : List UInt8) (h : List UInt32) : ∀ n, steps (l.take 64) h n = steps l h n
  | 0 => rfl
  | n + 1 => by rw [steps, steps, steps_take l h n, ws_take]
theorem mix_take (h : List UInt32) (l : List UInt8) : mix h (l.take 64) = mix h l := by rw [mix, mix, steps_take]
theorem ob_at {h : List UInt32} {i n : Nat} (hn : n < 4) : ob h (4 * i + n) = UInt8.ofNat (UInt32.ofNat ((h.getD i 0).toNat / 2 ^ (24 - 8 * n))).toNat := by
  rw [ob, show (4 * i + n) / 4 = i by omega, show (4 * i + n) % 4 = n by omega]
end Go.Sha
