/- NUMBERS AND ROWS OF BITS, in plain Lean: what a run of bits is as a number; a row laid byte by byte. -/
import Derived.Test.YtjehicncbpljaaaDoorI
import Derived.Laws.BitsAllLaws
namespace Go.Gx
open Go Go.RowKit

theorem snoc_ind {α : Type} {P : List α → Prop} (h0 : P []) (h1 : ∀ l x, P l → P (l ++ [x])) (l : List α) : P l := by
  rw [← List.reverse_reverse l]
  induction l.reverse with
  | nil => exact h0
  | cons x r ih => rw [List.reverse_cons]; exact h1 _ _ ih

def num (l : List Bool) : Nat := l.foldl (fun v b => 2 * v + b.toNat) 0
def bitsN : Nat → Nat → List Bool
  | 0, _ => []
  | n + 1, v => bitsN n (v / 2) ++ [v % 2 == 1]
def byB (bs : List Nat) : List Bool := bs.flatMap (bitsN 8)

theorem num_snoc (l : List Bool) (b : Bool) : num (l ++ [b]) = 2 * num l + b.toNat := by simp [num]
theorem bitsN_len : ∀ n v, (bitsN n v).length = n
  | 0, _ => rfl
  | n + 1, v => by rw [bitsN, List.length_append, bitsN_len n]; rfl
theorem num_append (a : List Bool) : ∀ b : List Bool, num (a ++ b) = num a * 2 ^ b.length + num b := by
  intro b
  induction b using snoc_ind with
  | h0 => simp [num]
  | h1 b x ih =>
    rw [← List.append_assoc, num_snoc, ih, num_snoc, List.length_append, List.length_singleton, Nat.pow_succ]
    rw [Nat.mul_add, Nat.add_assoc, show num a * (2 ^ b.length * 2) = 2 * (num a * 2 ^ b.length) by rw [← Nat.mul_assoc, Nat.mul_comm]]
theorem num_lt : ∀ l : List Bool, num l < 2 ^ l.length := by
  intro l
  induction l using snoc_ind with
  | h0 => simp [num]
  | h1 l x ih =>
    rw [num_snoc, List.length_append, List.length_singleton, Nat.pow_succ]
    cases x <;> simp <;> omega
theorem num_bitsN : ∀ n v, num (bitsN n v) = v % 2 ^ n
  | 0, v => by simp [bitsN, num, Nat.mod_one]
  | n + 1, v => by
    rw [bitsN, num_snoc, num_bitsN n, Nat.pow_succ, Nat.mul_comm (2 ^ n) 2, Nat.mod_mul]
    rcases Nat.mod_two_eq_zero_or_one v with h | h <;> simp [h] <;> omega
theorem bitsN_num : ∀ l : List Bool, bitsN l.length (num l) = l := by
  intro l
  induction l using snoc_ind with
  | h0 => rfl
  | h1 l x ih =>
    rw [num_snoc, List.length_append, List.length_singleton, bitsN]
    have h1 : (2 * num l + x.toNat) / 2 = num l := by cases x <;> simp <;> omega
    have h2 : ((2 * num l + x.toNat) % 2 == 1) = x := by cases x <;> simp
    rw [h1, h2, ih]
theorem bitsN_add (a v : Nat) : ∀ b, bitsN (a + b) v = bitsN a (v / 2 ^ b) ++ bitsN b v := by
  intro b
  induction b generalizing v with
  | zero => simp [bitsN]
  | succ b ih =>
    rw [show a + (b + 1) = (a + b) + 1 by omega, bitsN, ih, bitsN, List.append_assoc, Nat.div_div_eq_div_mul, Nat.pow_succ, Nat.mul_comm (2 ^ b) 2]
theorem bitsN_mod : ∀ n v, bitsN n (v % 2 ^ n) = bitsN n v
  | 0, _ => rfl
  | n + 1, v => by
    rw [bitsN, bitsN, Nat.pow_succ, Nat.mul_comm (2 ^ n) 2]
    have h1 : v % (2 * 2 ^ n) / 2 = v / 2 % 2 ^ n := by rw [Nat.mod_mul_right_div_self]
    have h2 : v % (2 * 2 ^ n) % 2 = v % 2 := Nat.mod_mul_right_mod ..
    rw [h1, h2, bitsN_mod n]
theorem bitsN_at : ∀ n v i, i < n → (bitsN n v)[i]? = some (v / 2 ^ (n - 1 - i) % 2 == 1)
  | 0, _, _, h => absurd h (Nat.not_lt_zero _)
  | n + 1, v, i, h => by
    rw [bitsN]
    by_cases hi : i < n
    · rw [List.getElem?_append_left (by rw [bitsN_len]; exact hi), bitsN_at n _ i hi, Nat.div_div_eq_div_mul]
      have e2 : 2 * 2 ^ (n - 1 - i) = 2 ^ (n + 1 - 1 - i) := by rw [← Nat.pow_succ']; congr 1; omega
      rw [e2]
    · obtain rfl : i = n := by omega
      rw [List.getElem?_append_right (by rw [bitsN_len]; exact Nat.le_refl _), bitsN_len]
      simp
theorem num_zeros : ∀ n, num (List.replicate n false) = 0
  | 0 => rfl
  | n + 1 => by rw [List.replicate_succ', num_snoc, num_zeros n]; rfl
theorem num_inj {a b : List Bool} (hl : a.length = b.length) (h : num a = num b) : a = b := by rw [← bitsN_num a, ← bitsN_num b, hl, h]

theorem byB_len : ∀ bs : List Nat, (byB bs).length = 8 * bs.length
  | [] => rfl
  | b :: bs => by
    have := byB_len bs
    simp only [byB, List.flatMap_cons, List.length_append, bitsN_len, List.length_cons] at this ⊢
    omega
theorem byB_append (a b : List Nat) : byB (a ++ b) = byB a ++ byB b := by simp [byB]
theorem byB_one (b : Nat) : byB [b] = bitsN 8 b := by simp [byB]
theorem byB_drop (bs : List Nat) (k : Nat) : byB (bs.drop k) = (byB bs).drop (8 * k) := by
  by_cases h : k ≤ bs.length
  · have e : byB bs = byB (bs.take k) ++ byB (bs.drop k) := by rw [← byB_append, List.take_append_drop]
    have hl : (byB (bs.take k)).length = 8 * k := by rw [byB_len, List.length_take]; omega
    rw [e, ← hl, List.drop_left]
  · rw [List.drop_of_length_le (by omega), List.drop_of_length_le (by rw [byB_len]; omega)]
    rfl
theorem byB_take (bs : List Nat) (k : Nat) : byB (bs.take k) = (byB bs).take (8 * k) := by
  by_cases h : k ≤ bs.length
  · have e : byB bs = byB (bs.take k) ++ byB (bs.drop k) := by rw [← byB_append, List.take_append_drop]
    have hl : (byB (bs.take k)).length = 8 * k := by rw [byB_len, List.length_take]; omega
    conv => rhs; rw [e, ← hl, List.take_left]
  · rw [List.take_of_length_le (by omega), List.take_of_length_le (by rw [byB_len]; omega)]
theorem byB_at {bs : List Nat} {i : Nat} (h : i < 8 * bs.length) : ∃ c, bs[i / 8]? = some c ∧ (byB bs)[i]? = some (c / 2 ^ (7 - i % 8) % 2 == 1) := by
  have hi : i / 8 < bs.length := by omega
  refine ⟨bs[i / 8], List.getElem?_eq_getElem hi, ?_⟩
  have e : byB bs = byB (bs.take (i / 8)) ++ (bitsN 8 bs[i / 8] ++ byB (bs.drop (i / 8 + 1))) := by
    rw [← byB_one, ← byB_append, ← byB_append]
    congr 1
    rw [List.singleton_append, ← List.drop_eq_getElem_cons hi, List.take_append_drop]
  have hl : (byB (bs.take (i / 8))).length = 8 * (i / 8) := by rw [byB_len, List.length_take]; omega
  rw [e, List.getElem?_append_right (by omega), hl, List.getElem?_append_left (by rw [bitsN_len]; omega), bitsN_at 8 _ _ (by omega), show 8 - 1 - (i - 8 * (i / 8)) = 7 - i % 8 by omega]
/-- the bytes' own numbers, one behind the other -/
theorem num_byB : ∀ bs : List Nat, (∀ c ∈ bs, c < 256) → num (byB bs) = bs.foldl (fun o c => o * 256 + c) 0 := by
  intro bs
  induction bs using snoc_ind with
  | h0 => intro _; rfl
  | h1 bs c ih =>
    intro h
    rw [byB_append, num_append, ih (fun x hx => h x (by simp [hx])), byB_one, bitsN_len, num_bitsN, List.foldl_append, Nat.mod_eq_of_lt (h c (by simp))]
    rfl

/-- a run of bits of bytes, from the bytes that bear it -/
theorem get_num {bs : List Nat} {p n : Nat} (hn : 0 < n) (h : p + n ≤ 8 * bs.length) :
    num (byB ((bs.take ((p + n + 7) / 8)).drop (p / 8))) / 2 ^ (8 * ((p + n + 7) / 8) - (p + n)) % 2 ^ n = num (((byB bs).drop p).take n) := by
  have h1 : byB ((bs.take ((p + n + 7) / 8)).drop (p / 8)) = (((byB bs).drop (8 * (p / 8))).take (p - 8 * (p / 8)) ++ ((byB bs).drop p).take n) ++ ((byB bs).drop (p + n)).take (8 * ((p + n + 7) / 8) - (p + n)) := by
    rw [byB_drop, byB_take, List.drop_take]
    have e1 : 8 * ((p + n + 7) / 8) - 8 * (p / 8) = (p - 8 * (p / 8)) + (n + (8 * ((p + n + 7) / 8) - (p + n))) := by omega
    rw [e1, List.take_add, List.take_add, List.drop_drop, List.drop_drop, show 8 * (p / 8) + (p - 8 * (p / 8)) = p by omega, List.append_assoc]
  have hpost : (((byB bs).drop (p + n)).take (8 * ((p + n + 7) / 8) - (p + n))).length = 8 * ((p + n + 7) / 8) - (p + n) := by
    rw [List.length_take, List.length_drop, byB_len]; omega
  have hw : (((byB bs).drop p).take n).length = n := by rw [List.length_take, List.length_drop, byB_len]; omega
  rw [h1, num_append, hpost]
  have hlt := num_lt (((byB bs).drop (p + n)).take (8 * ((p + n + 7) / 8) - (p + n)))
  rw [hpost] at hlt
  have hd : ∀ a k b : Nat, b < 2 ^ k → (a * 2 ^ k + b) / 2 ^ k = a := fun a k b hb => by
    rw [Nat.mul_comm, Nat.mul_add_div (Nat.two_pow_pos k), Nat.div_eq_of_lt hb, Nat.add_zero]
  rw [hd _ _ _ hlt, num_append, hw, Nat.mul_comm, Nat.mul_add_mod]
  have := num_lt (((byB bs).drop p).take n)
  rw [hw] at this
  exact Nat.mod_eq_of_lt this

/-- A row: its bytes; how many bits are free in the last one; the bits that were laid. -/
structure Packed (bs : List Nat) (free : Nat) (l : List Bool) : Prop where
  eq : byB bs = l ++ List.replicate free false
  small : ∀ c ∈ bs, c < 256
  le : free ≤ 8
theorem Packed.len {bs : List Nat} {free : Nat} {l : List Bool} (h : Packed bs free l) : 8 * bs.length = l.length + free := by
  have := congrArg List.length h.eq
  rw [byB_len, List.length_append, List.length_replicate] at this
  exact this
theorem Packed.nil : Packed [] 0 [] := ⟨rfl, fun _ h => absurd h List.not_mem_nil, by omega⟩
theorem Packed.more {bs : List Nat} {l : List Bool} (h : Packed bs 0 l) : Packed (bs ++ [0]) 8 l := by
  refine ⟨?_, fun c hc => ?_, by omega⟩
  · rw [byB_append, h.eq, byB_one]; simp [bitsN]
  · rcases List.mem_append.1 hc with hc | hc
    · exact h.small c hc
    · rw [List.mem_singleton.1 hc]; omega
theorem Packed.pad {bs : List Nat} {free : Nat} {l : List Bool} (h : Packed bs free l) : Packed bs 0 (l ++ List.replicate free false) := ⟨by rw [h.eq]; simp, h.small, by omega⟩
theorem Packed.last {bs : List Nat} {B free : Nat} {l : List Bool} (h : Packed (bs ++ [B]) free l) : l = byB bs ++ l.drop (8 * bs.length) ∧ bitsN 8 B = l.drop (8 * bs.length) ++ List.replicate free false := by
  have he := h.eq
  have hle := h.le
  have hlen := h.len
  rw [List.length_append, List.length_singleton] at hlen
  rw [byB_append, byB_one] at he
  have hb : (byB bs).length = 8 * bs.length := byB_len bs
  have h1 : byB bs = l.take (8 * bs.length) := by
    have := congrArg (List.take (8 * bs.length)) he
    rw [← hb, List.take_left, hb, List.take_append_of_le_length (by omega)] at this
    exact this
  have h2 : bitsN 8 B = l.drop (8 * bs.length) ++ List.replicate free false := by
    have := congrArg (List.drop (8 * bs.length)) he
    rw [← hb, List.drop_left, hb, List.drop_append_of_le_length (by omega)] at this
    exact this
  exact ⟨by rw [h1, List.take_append_drop], h2⟩
theorem Packed.lay {bs : List Nat} {B free many p : Nat} {l : List Bool} (h : Packed (bs ++ [B]) free l) (hm : many ≤ free) (hp : p < 2 ^ many) :
    B ||| (p <<< (free - many)) < 256 ∧ Packed (bs ++ [B ||| (p <<< (free - many))]) (free - many) (l ++ bitsN many p) := by
  obtain ⟨h1, h2⟩ := h.last
  have hle := h.le
  have hlen := h.len
  rw [List.length_append, List.length_singleton] at hlen
  have hB : B < 256 := h.small B (by simp)
  have hl2 : (l.drop (8 * bs.length)).length = 8 - free := by rw [List.length_drop]; omega
  generalize hq : l.drop (8 * bs.length) = q at h1 h2 hl2
  have hBn : B = num q * 2 ^ free := by
    have := congrArg num h2
    rw [num_bitsN, Nat.mod_eq_of_lt hB, num_append, num_zeros, List.length_replicate, Nat.add_zero] at this
    exact this
  have hk : p <<< (free - many) = p * 2 ^ (free - many) := Nat.shiftLeft_eq ..
  have hpk : p * 2 ^ (free - many) < 2 ^ free := by
    have : 2 ^ free = 2 ^ many * 2 ^ (free - many) := by rw [← Nat.pow_add]; congr 1; omega
    rw [this]
    exact Nat.mul_lt_mul_of_pos_right hp (Nat.two_pow_pos _)
  have hor : B ||| (p <<< (free - many)) = num (q ++ bitsN many p ++ List.replicate (free - many) false) := by
    rw [hk, hBn, ← Nat.shiftLeft_eq, ← Nat.shiftLeft_add_eq_or_of_lt hpk, Nat.shiftLeft_eq, num_append, num_append, num_zeros, List.length_replicate, bitsN_len, num_bitsN, Nat.mod_eq_of_lt hp, Nat.add_zero, Nat.add_mul, Nat.mul_assoc, ← Nat.pow_add, show many + (free - many) = free by omega]
  have hL : (q ++ bitsN many p ++ List.replicate (free - many) false).length = 8 := by
    rw [List.length_append, List.length_append, hl2, bitsN_len, List.length_replicate]; omega
  have hlt : B ||| (p <<< (free - many)) < 256 := by
    rw [hor]
    have := num_lt (q ++ bitsN many p ++ List.replicate (free - many) false)
    rw [hL] at this
    exact this
  refine ⟨hlt, ?_, ?_, by omega⟩
  · rw [byB_append, byB_one, hor]
    have := bitsN_num (q ++ bitsN many p ++ List.replicate (free - many) false)
    rw [hL] at this
    rw [this, h1]
    simp only [List.append_assoc]
  · intro c hc
    rcases List.mem_append.1 hc with hc | hc
    · exact h.small c (by simp [hc])
    · rw [List.mem_singleton.1 hc]; exact hlt

/-! ### the machine's own operations on what is not negative -/
theorem fdiv_nat (a b : Nat) : (a : Int).fdiv (b : Int) = ((a / b : Nat) : Int) := by
  rw [Int.fdiv_eq_ediv_of_nonneg _ (by omega)]; simp
theorem shr_nat {k : IntKind} {v n : Nat} (h : n ≤ k.bits) : (v : Int).fdiv (2 ^ (min (n : Int).toNat k.bits)) = ((v / 2 ^ n : Nat) : Int) := by
  rw [Int.toNat_natCast, Nat.min_eq_left h, ← fdiv_nat]; simp
theorem and_u8 {a b : Nat} (ha : a < 256) (hb : b < 256) : bitsOf .and .u8 (a : Int) (b : Int) = ((a &&& b : Nat) : Int) := by
  have h : a &&& b ≤ a := Nat.and_le_left
  show IntKind.u8.wrap ((BitVec.ofInt 8 (a : Int) &&& BitVec.ofInt 8 (b : Int)).toNat : Int) = _
  rw [BitVec.toNat_and, ofInt_u8 a ha, ofInt_u8 b hb]
  exact IntWalk.u8_in ((a &&& b : Nat) : Int) ⟨by omega, by omega⟩
theorem or_u8 {a b : Nat} (ha : a < 256) (hb : b < 256) (h : a ||| b < 256) : bitsOf .or .u8 (a : Int) (b : Int) = ((a ||| b : Nat) : Int) := by
  show IntKind.u8.wrap ((BitVec.ofInt 8 (a : Int) ||| BitVec.ofInt 8 (b : Int)).toNat : Int) = _
  rw [BitVec.toNat_or, ofInt_u8 a ha, ofInt_u8 b hb]
  exact IntWalk.u8_in ((a ||| b : Nat) : Int) ⟨by omega, by omega⟩
theorem and_u32 {a b : Nat} (ha : a < 4294967296) (hb : b < 4294967296) : bitsOf .and .u32 (a : Int) (b : Int) = ((a &&& b : Nat) : Int) := by
  have h : a &&& b ≤ a := Nat.and_le_left
  show IntKind.u32.wrap ((BitVec.ofInt 32 (a : Int) &&& BitVec.ofInt 32 (b : Int)).toNat : Int) = _
  rw [BitVec.toNat_and, ofInt_u32 a ha, ofInt_u32 b hb]
  exact IntWalk.u32_in ((a &&& b : Nat) : Int) ⟨by omega, by omega⟩
theorem and_u64 {a b : Nat} (ha : a < 18446744073709551616) (hb : b < 18446744073709551616) : bitsOf .and .u64 (a : Int) (b : Int) = ((a &&& b : Nat) : Int) := by
  have h : a &&& b ≤ a := Nat.and_le_left
  show IntKind.u64.wrap ((BitVec.ofInt 64 (a : Int) &&& BitVec.ofInt 64 (b : Int)).toNat : Int) = _
  rw [BitVec.toNat_and, ofInt_u64 a ha, ofInt_u64 b hb]
  exact IntWalk.u64_in ((a &&& b : Nat) : Int) ⟨by omega, by omega⟩
theorem or_u64 {a b : Nat} (ha : a < 18446744073709551616) (hb : b < 18446744073709551616) (h : a ||| b < 18446744073709551616) : bitsOf .or .u64 (a : Int) (b : Int) = ((a ||| b : Nat) : Int) := by
  show IntKind.u64.wrap ((BitVec.ofInt 64 (a : Int) ||| BitVec.ofInt 64 (b : Int)).toNat : Int) = _
  rw [BitVec.toNat_or, ofInt_u64 a ha, ofInt_u64 b hb]
  exact IntWalk.u64_in ((a ||| b : Nat) : Int) ⟨by omega, by omega⟩
theorem neg7 {e : Nat} (h : e ≤ 9223372036854775807) : bitsOf .and .i64 (0 - (e : Int)) 7 = ((8 * ((e + 7) / 8) - e : Nat) : Int) := by
  show IntKind.i64.wrap ((BitVec.ofInt 64 (0 - (e : Int)) &&& BitVec.ofInt 64 7).toNat : Int) = _
  rw [BitVec.toNat_and, BitVec.toNat_ofInt, BitVec.toNat_ofInt]
  have h7 : ((7 : Int) % ((2 ^ 64 : Nat) : Int)).toNat = 2 ^ 3 - 1 := by decide
  rw [h7, Nat.and_two_pow_sub_one_eq_mod]
  have e1 : ((0 - (e : Int)) % ((2 ^ 64 : Nat) : Int)).toNat % 2 ^ 3 = 8 * ((e + 7) / 8) - e := by
    have : ((2 ^ 64 : Nat) : Int) = 18446744073709551616 := by decide
    rw [this]
    omega
  rw [e1]
  exact wrap_i64 ⟨by omega, by omega⟩
end Go.Gx
