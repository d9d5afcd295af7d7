/- A NUMBER OF SO MANY BITS, FROM ONE ON: the program's own Get, and the document's. -/
import Derived.Test.YtjehicncbpljaaaDoorP01a
import Derived.Test.YtjehicncbpljaaaDoorP06a
namespace Go.Proofs.YtjehicncbpljaaaDoor
open Go Go.Gx Go.RowKit
set_option maxRecDepth 100000

theorem QT_to {P : Program} {n : Nat} {ops : Array Oper} {o : Oper} {σ : Slots} {A : World → Prop} {g : Bool} {k : IntKind} {z z' : Int} (h : QT P n ops o σ A g (.int k z)) (e : z = z') : QT P n ops o σ A g (.int k z') := e ▸ h
def byV (bs : List Nat) : List Value := bs.map fun (c : Nat) => Value.int .u8 (c : Int)
theorem byV_len (bs : List Nat) : (byV bs).length = bs.length := by simp [byV]
theorem byV_at {bs : List Nat} {i c : Nat} (h : bs[i]? = some c) : (byV bs)[i]? = some (.int .u8 (c : Int)) := by simp [byV, h]
theorem wf_byte {c : Nat} (h : c < 256) : (Lit.int .u8 (c : Int)).wf = true := by
  have h1 : IntKind.u8.min = 0 := rfl
  have h2 : IntKind.u8.max = 255 := rfl
  simp only [Lit.wf, Bool.and_eq_true, decide_eq_true_eq]
  omega
theorem byV_ints : ∀ {bs : List Nat}, (∀ c ∈ bs, c < 256) → Ints (rep bs.length byteK) (byV bs)
  | [], _ => by show Ints (rep 0 byteK) []; simpa [rep] using Ints.nil
  | c :: bs, h => by
    show Ints (rep (bs.length + 1) byteK) _
    rw [rep_succ]
    exact .cons (wf_byte (h c (List.mem_cons_self ..))) (byV_ints fun x hx => h x (List.mem_cons_of_mem _ hx))
theorem byV_of : ∀ {n : Nat} {xs : List Value}, Ints (rep n byteK) xs → ∃ bs : List Nat, xs = byV bs ∧ bs.length = n ∧ ∀ c ∈ bs, c < 256
  | 0, xs, h => by
    rw [show rep 0 byteK = [] from rfl] at h
    obtain rfl := h.inv_nil
    exact ⟨[], rfl, rfl, fun _ h => absurd h List.not_mem_nil⟩
  | n + 1, xs, h => by
    rw [rep_succ] at h
    obtain ⟨z, cs, rfl, hw, h2⟩ := (show Ints (.u8 :: rep n byteK) xs from h).inv
    obtain ⟨bs, rfl, rfl, hb⟩ := byV_of h2
    have hz := wf_u8 hw
    obtain ⟨c, rfl⟩ := Int.eq_ofNat_of_zero_le hz.1
    exact ⟨c :: bs, rfl, rfl, fun x hx => by
      rcases List.mem_cons.1 hx with rfl | hx
      · omega
      · exact hb x hx⟩
theorem byV_take (bs : List Nat) (k : Nat) : (byV bs).take (k * 1) = byV (bs.take k) := by rw [Nat.mul_one]; simp [byV, List.map_take]
theorem byV_drop (bs : List Nat) (k : Nat) : (byV bs).drop (k * 1) = byV (bs.drop k) := by rw [Nat.mul_one]; simp [byV, List.map_drop]
theorem byV_append (a b : List Nat) : byV (a ++ b) = byV a ++ byV b := by simp [byV]

def getE (len : Nat) (p n : Int) : Int := if p < 0 ∨ n < 0 ∨ 32 < n then 1 else if 8 * (len : Int) - n < p then 5 else 0
def getV (bs : List Nat) (p n : Int) : Nat := if getE bs.length p n = 0 then num (((byB bs).drop p.toNat).take n.toNat) else 0
theorem shl8 {O c : Nat} (hO : O < 4294967296) (hc : c < 256) : bitsOf .or .u64 (IntKind.u64.wrap ((O : Int) * 2 ^ (min (8 : Int).toNat IntKind.u64.bits))) (IntKind.u64.wrap (c : Int)) = ((O * 256 + c : Nat) : Int) := by
  have e1 : (O : Int) * 2 ^ (min (8 : Int).toNat IntKind.u64.bits) = ((O * 256 : Nat) : Int) := by
    have : (2 : Int) ^ (min (8 : Int).toNat IntKind.u64.bits) = 256 := by decide
    rw [this]; simp
  rw [e1, IntWalk.u64_in _ ⟨by omega, by omega⟩, IntWalk.u64_in (c : Int) ⟨by omega, by omega⟩]
  have h2 : O * 256 ||| c = O * 256 + c := by
    have := (Nat.shiftLeft_add_eq_or_of_lt (show c < 2 ^ 8 from hc) O).symm
    rwa [Nat.shiftLeft_eq] at this
  rw [or_u64 (by omega) (by omega) (by omega), h2]
theorem two_u64 {m : Nat} (h : m ≤ 32) : IntKind.u64.wrap (1 * 2 ^ (min (m : Int).toNat IntKind.u64.bits)) = ((2 ^ m : Nat) : Int) := by
  have hp : 2 ^ m ≤ 2 ^ 32 := Nat.pow_le_pow_right (by decide) h
  have e : (1 : Int) * 2 ^ (min (m : Int).toNat IntKind.u64.bits) = ((2 ^ m : Nat) : Int) := by
    rw [Int.toNat_natCast, Nat.min_eq_left (show m ≤ IntKind.u64.bits by show m ≤ 64; omega), Int.one_mul]; simp
  rw [e]
  clear e
  generalize 2 ^ m = X at hp
  exact IntWalk.u64_in (X : Int) ⟨by omega, by omega⟩
theorem pow_b {m : Nat} (h : m ≤ 32) : 0 < 2 ^ m ∧ 2 ^ m ≤ 4294967296 := ⟨Nat.two_pow_pos m, Nat.pow_le_pow_right (by decide) h⟩
theorem mask_u64 {X m : Nat} (h : m ≤ 32) (hX : X < 18446744073709551616) : bitsOf .and .u64 (X : Int) (((2 ^ m - 1 : Nat) : Int)) = ((X % 2 ^ m : Nat) : Int) := by
  have := pow_b h
  rw [and_u64 hX (by omega), Nat.and_two_pow_sub_one_eq_mod]
theorem take_one_more {bs : List Nat} {i c : Nat} (h : bs[i]? = some c) : bs.take (i + 1) = bs.take i ++ [c] := by
  rw [List.take_add_one, h]; rfl
theorem num_more {bs : List Nat} {i c : Nat} (h : bs[i]? = some c) (hc : c < 256) : num (byB (bs.take (i + 1))) = num (byB (bs.take i)) * 256 + c := by
  rw [take_one_more h, byB_append, byB_one, num_append, bitsN_len, num_bitsN, Nat.mod_eq_of_lt hc]
theorem num_bytes_lt (bs : List Nat) : num (byB bs) < 2 ^ (8 * bs.length) := by
  have := num_lt (byB bs)
  rwa [byB_len] at this

theorem get_spec (w0 : Base) (η : Heap) (sv : Value) (bs : List Nat) (p n : Int) (hs : SlA (St w0 η) sv 1 bs.length (byV bs)) (hb : ∀ c ∈ bs, c < 256) (hp : I64 p) (hn : I64 n) (hl : bs.length ≤ 140737488355328) :
    CallsT Tryd.prog 98 [sv, .int .i64 p, .int .i64 n] (St w0 η) fun v A' => v = .tuple #[.int .u32 ((getV bs p n : Nat) : Int), .int .i64 (getE bs.length p n)] ∧ A' = St w0 η := by
  have hs0 := hs
  obtain ⟨_, ad, cap, rfl, hcap, _⟩ := hs
  refine CallsT.body Tryd.func98 rfl rfl ?_
  simp only [Tryd.ntmps98, slotsOf, Nat.reduceAdd]
  refine TC_seq ?_
  refine TC_reg ?_
  refine TL_q rfl rfl (QT_assign rfl rfl rfl) ?_
  refine TL_q rfl rfl (QT_assign rfl rfl rfl) ?_
  refine TL_nil ?_
  refine TX_then ?_
  refine TC_seq ?_
  refine TC_block ?_
  refine TC_seq ?_
  refine TC_reg ?_
  refine TL_q rfl rfl (QT_move rfl rfl rfl) ?_
  refine TL_q rfl rfl (QT_lss rfl rfl rfl rfl) ?_
  refine TL_q rfl rfl (QT_move rfl rfl rfl) ?_
  refine TL_q rfl rfl (QT_move rfl rfl rfl) ?_
  refine TL_q rfl rfl (QT_lss rfl rfl rfl rfl) ?_
  refine TL_q rfl rfl (QT_or rfl rfl rfl rfl) ?_
  refine TL_q rfl rfl (QT_move rfl rfl rfl) ?_
  refine TL_q rfl rfl (QT_move rfl rfl rfl) ?_
  refine TL_q rfl rfl (QT_gtr rfl rfl rfl rfl) ?_
  refine TL_q rfl rfl (QT_or rfl rfl rfl rfl) ?_
  refine TL_q rfl rfl (QT_assign rfl rfl rfl) ?_
  refine TL_nil ?_
  refine TX_then ?_
  first
    | refine TC_cond_dec rfl (fun h12 => ?_) (fun h12 => ?_)
    | refine TC_cond rfl (fun h12 => ?_) (fun h12 => ?_)
  ·
    refine TC_seq ?_
    refine TC_reg ?_
    refine TL_q rfl rfl (QT_assign rfl rfl rfl) ?_
    refine TL_q rfl rfl (QT_assign rfl rfl rfl) ?_
    refine TL_nil ?_
    refine TX_then ?_
    refine TC_ret ?_
    refine TX_block_ret ?_
    refine TX_then_ret ?_
    have e : getE bs.length p n = 1 := by
      simp only [Bool.or_eq_true, decide_eq_true_eq] at h12
      unfold getE; rw [if_pos (by omega)]
    exact TX_ret (.inl rfl) (res2 rfl rfl rfl) ⟨_, ⟨by unfold getV; rw [e, if_neg (by decide)]; rfl, rfl⟩, fun _ h => h⟩
  ·
    refine TC_seq ?_
    have h12' : 0 ≤ p ∧ 0 ≤ n ∧ n ≤ 32 := by
      simp only [Bool.or_eq_false_iff, decide_eq_false_iff_not] at h12
      omega
    refine TC_reg ?_
    refine TL_q rfl rfl (QT_move rfl rfl rfl) ?_
    refine TL_q rfl rfl (QT_move rfl rfl rfl) ?_
    refine TL_q rfl rfl (QT_len rfl rfl Tryd.underlying28 rfl) ?_
    refine TL_q rfl rfl (QT_mul rfl rfl rfl rfl (fun _ => ⟨by omega, by omega⟩)) ?_
    refine TL_q rfl rfl (QT_move rfl rfl rfl) ?_
    refine TL_q rfl rfl (QT_sub rfl rfl rfl rfl (fun _ => ⟨by omega, by omega⟩)) ?_
    refine TL_q rfl rfl (QT_gtr rfl rfl rfl rfl) ?_
    refine TL_q rfl rfl (QT_assign rfl rfl rfl) ?_
    refine TL_nil ?_
    refine TX_then ?_
    first
      | refine TC_cond_dec rfl (fun h23 => ?_) (fun h23 => ?_)
      | refine TC_cond rfl (fun h23 => ?_) (fun h23 => ?_)
    ·
      refine TC_seq ?_
      refine TC_reg ?_
      refine TL_q rfl rfl (QT_assign rfl rfl rfl) ?_
      refine TL_q rfl rfl (QT_assign rfl rfl rfl) ?_
      refine TL_nil ?_
      refine TX_then ?_
      refine TC_ret ?_
      refine TX_block_ret ?_
      refine TX_then_ret ?_
      have e : getE bs.length p n = 5 := by unfold getE; rw [if_neg (by omega), if_pos h23]
      exact TX_ret (.inl rfl) (res2 rfl rfl rfl) ⟨_, ⟨by unfold getV; rw [e, if_neg (by decide)]; rfl, rfl⟩, fun _ h => h⟩
    ·
      refine TC_seq ?_
      have e0 : getE bs.length p n = 0 := by unfold getE; rw [if_neg (by omega), if_neg h23]
      have hv : getV bs p n = num (((byB bs).drop p.toNat).take n.toNat) := by unfold getV; rw [if_pos e0]
      rw [e0, hv]
      obtain ⟨q, rfl⟩ := Int.eq_ofNat_of_zero_le h12'.1
      obtain ⟨m, rfl⟩ := Int.eq_ofNat_of_zero_le h12'.2.1
      rw [Int.toNat_natCast, Int.toNat_natCast]
      refine TC_reg ?_
      refine TL_q rfl rfl (QT_move rfl rfl rfl) ?_
      refine TL_q rfl rfl (QT_eql rfl rfl rfl rfl) ?_
      refine TL_q rfl rfl (QT_assign rfl rfl rfl) ?_
      refine TL_nil ?_
      refine TX_then ?_
      first
        | refine TC_cond_dec rfl (fun h31 => ?_) (fun h31 => ?_)
        | refine TC_cond rfl (fun h31 => ?_) (fun h31 => ?_)
      ·
        refine TC_seq ?_
        refine TC_reg ?_
        refine TL_q rfl rfl (QT_assign rfl rfl rfl) ?_
        refine TL_q rfl rfl (QT_assign rfl rfl rfl) ?_
        refine TL_nil ?_
        refine TX_then ?_
        refine TC_ret ?_
        refine TX_block_ret ?_
        refine TX_then_ret ?_
        obtain rfl : m = 0 := by omega
        exact TX_ret (.inl rfl) (res2 rfl rfl rfl) ⟨_, ⟨by rw [List.take_zero]; rfl, rfl⟩, fun _ h => h⟩
      ·
        refine TC_skip ?_
        refine TX_block_normal ?_
        refine TX_then ?_
        refine TC_seq ?_
        have hqm : q + m ≤ 8 * bs.length := by omega
        have hm0 : 0 < m := by omega
        have hm32 : m ≤ 32 := by omega
        have hseg := (hs0.front (show (q + m + 7) / 8 ≤ bs.length by omega)).back (show q / 8 ≤ (q + m + 7) / 8 by omega)
        rw [byV_take, byV_drop] at hseg
        generalize hsg : ((bs.take ((q + m + 7) / 8)).drop (q / 8)) = sg at hseg
        have hsb : ∀ c ∈ sg, c < 256 := fun c hc => hb c (by subst hsg; exact List.mem_of_mem_take (List.mem_of_mem_drop hc))
        have hsl : sg.length = (q + m + 7) / 8 - q / 8 := by subst hsg; rw [List.length_drop, List.length_take]; omega
        have hs5 : sg.length ≤ 5 := by omega
        obtain ⟨_, sad, scap, sb, soff, heq, _, hsad, hsr⟩ := hseg.some
        obtain ⟨rfl, _, _⟩ := Value.slice.inj heq
        refine TC_reg ?_
        refine TL_q rfl rfl (QT_move rfl rfl rfl) ?_
        refine TL_q rfl rfl (QT_move rfl rfl rfl) ?_
        refine TL_q rfl rfl (QT_to (QT_add rfl rfl rfl rfl (fun _ => ⟨by omega, by omega⟩)) (show (q : Int) + (m : Int) = ((q + m : Nat) : Int) by simp)) ?_
        refine TL_q rfl rfl (QT_assign rfl rfl rfl) ?_
        refine TL_q rfl rfl (QT_assign rfl rfl rfl) ?_
        refine TL_nil ?_
        refine TX_then ?_
        refine TC_seq ?_
        refine TC_seq ?_
        refine TC_reg ?_
        refine TL_q rfl rfl (QT_move rfl rfl rfl) ?_
        refine TL_q rfl rfl (QT_move rfl rfl rfl) ?_
        refine TL_q rfl rfl (QT_quo rfl rfl rfl rfl (fun _ => ⟨by omega, by omega, by omega⟩)) ?_
        refine TL_q rfl rfl (QT_move rfl rfl rfl) ?_
        refine TL_q rfl rfl (QT_add rfl rfl rfl rfl (fun _ => ⟨by omega, by omega⟩)) ?_
        refine TL_q rfl rfl (QT_sub rfl rfl rfl rfl (fun _ => ⟨by omega, by omega⟩)) ?_
        refine TL_q rfl rfl (QT_quo rfl rfl rfl rfl (fun _ => ⟨by omega, by omega, by omega⟩)) ?_
        refine TL_q rfl rfl (QT_slcLH (q / 8) ((q + m + 7) / 8) rfl rfl rfl Tryd.underlying28 YtjehicncbpljaaaDoorF.sz_5 rfl rfl rfl (by omega) (by omega) (fun _ => ⟨by omega, by omega⟩)) ?_
        refine TL_q rfl rfl (QT_len rfl rfl Tryd.underlying28 rfl) ?_
        refine TL_q rfl rfl (QT_move rfl rfl rfl) ?_
        refine TL_nil ?_
        refine TX_then ?_
        refine TC_block ?_
        refine TC_loop (γ := { i : Nat // i ≤ sg.length }) (fun t => [(2, true, .int .i64 (m : Int)), (8, true, .int .u64 ((num (byB (sg.take t.1)) : Nat) : Int)), (9, true, .int .i64 ((q + m : Nat) : Int)), (44, true, .slice (if cap = q / 8 then ad else ad.map (·.add (q / 8 * 1))) ((q + m + 7) / 8 - q / 8) (cap - q / 8)), (45, true, .int .i64 (sg.length : Int)), (46, true, .int .i64 (t.1 : Int))]) (fun _ => St w0 η) (fun t => sg.length - t.1) ⟨0, by omega⟩ ⟨rfl, rfl, rfl, rfl, slotI rfl (by omega), rfl, trivial⟩ (fun _ h => h) ?_
        rintro ⟨i, hi⟩
        dsimp only
        refine TC_seq ?_
        refine TC_reg ?_
        refine TL_q rfl rfl (QT_lss rfl rfl rfl rfl) ?_
        refine TL_nil ?_
        refine TX_then ?_
        refine TC_seq ?_
        first
          | refine TC_cond_dec rfl (fun h47 => ?_) (fun h47 => ?_)
          | refine TC_cond rfl (fun h47 => ?_) (fun h47 => ?_)
        ·
          have hi' : i < sg.length := by omega
          obtain ⟨c, hc⟩ : ∃ c, sg[i]? = some c := ⟨_, List.getElem?_eq_getElem hi'⟩
          have hcb := hsb c (List.mem_of_getElem? hc)
          have hO : num (byB (sg.take i)) < 4294967296 := by
            have h1 := num_bytes_lt (sg.take i)
            have h2 : (sg.take i).length ≤ 4 := by rw [List.length_take]; omega
            have h3 : 2 ^ (8 * (sg.take i).length) ≤ 2 ^ 32 := Nat.pow_le_pow_right (by decide) (by omega)
            omega
          refine TC_skip ?_
          refine TX_then ?_
          refine TC_seq ?_
          refine TC_block ?_
          refine TC_seq ?_
          refine TC_reg ?_
          refine TL_q rfl rfl (QT_indexG i rfl rfl Tryd.underlying28 YtjehicncbpljaaaDoorF.sz_5 rfl rfl rfl (fun _ => by omega) (fun _ => hsad (by omega))) ?_
          refine TL_q rfl rfl (QT_loadRj i rfl rfl Tryd.underlying5 rfl hsr rfl (fun _ => byV_at hc)) ?_
          refine TL_q rfl rfl (QT_assign rfl rfl rfl) ?_
          refine TL_nil ?_
          refine TX_then ?_
          refine TC_reg ?_
          refine TL_q rfl rfl (QT_move rfl rfl rfl) ?_
          refine TL_q rfl rfl (QT_shl rfl rfl rfl rfl (fun _ => by omega)) ?_
          refine TL_q rfl rfl (QT_move rfl rfl rfl) ?_
          refine TL_q rfl rfl (QT_conv rfl rfl Tryd.underlying5 Tryd.underlying71 rfl) ?_
          refine TL_q rfl rfl (QT_to (QT_bits rfl rfl (by decide) rfl rfl) (shl8 hO hcb)) ?_
          refine TL_q rfl rfl (QT_assign rfl rfl rfl) ?_
          refine TL_nil ?_
          refine TX_block_normal ?_
          refine TX_then ?_
          refine TC_reg ?_
          refine TL_q rfl rfl (QT_add rfl rfl rfl rfl (fun _ => ⟨by omega, by omega⟩)) ?_
          refine TL_q rfl rfl (QT_move rfl rfl rfl) ?_
          refine TL_nil ?_
          exact TX_round ⟨i + 1, by omega⟩ (by show sg.length - (i + 1) < sg.length - i; omega) ⟨rfl, slotI rfl (by rw [num_more hc hcb]), rfl, rfl, rfl, rfl, trivial⟩ (fun _ h => h)
        ·
          refine TC_exit ?_
          refine TX_then_exit ?_
          refine TX_then_exit ?_
          refine TX_block_here ?_
          refine TX_then ?_
          refine TC_seq ?_
          obtain rfl : i = sg.length := by omega
          have hX : num (byB sg) < 1099511627776 := by
            have h1 := num_bytes_lt sg
            have h3 : 2 ^ (8 * sg.length) ≤ 2 ^ 40 := Nat.pow_le_pow_right (by decide) (by omega)
            omega
          have hpb := pow_b hm32
          have hX2 : num (byB sg) / 2 ^ (8 * ((q + m + 7) / 8) - (q + m)) ≤ num (byB sg) := Nat.div_le_self ..
          have hfin := get_num (bs := bs) hm0 hqm
          rw [hsg] at hfin
          have hXm : num (byB sg) / 2 ^ (8 * ((q + m + 7) / 8) - (q + m)) % 2 ^ m < 2 ^ m := Nat.mod_lt _ hpb.1
          refine TC_draw [(0, 0), (1, 0), (2, 0), (3, 0), (4, 0), (5, 0), (6, 0), (7, 0), (8, 0), (9, 0), (10, 0), (11, 0)] YtjehicncbpljaaaDoorF.mixed (by kernel_rfl) (St.calm _ _) ?_
          refine TV_q rfl rfl rfl (fun _ => QT_to (QT_move rfl rfl rfl) (by rw [List.take_of_length_le (Nat.le_refl _)])) ?_
          refine TV_q rfl rfl rfl (fun _ => QT_move rfl rfl rfl) ?_
          refine TV_q rfl rfl rfl (fun _ => QT_neg rfl rfl rfl (fun _ => ⟨by omega, by omega⟩)) ?_
          refine TV_q rfl rfl rfl (fun _ => QT_to (QT_bits rfl rfl (by decide) rfl rfl) (neg7 (e := q + m) (by omega))) ?_
          refine TV_q rfl rfl rfl (fun _ => QT_to (QT_shr rfl rfl rfl rfl (fun _ => by omega)) (shr_nat (k := .u64) (by show 8 * ((q + m + 7) / 8) - (q + m) ≤ 64; omega))) ?_
          refine TV_q rfl rfl rfl (fun _ => QT_move rfl rfl rfl) ?_
          refine TV_q rfl rfl rfl (fun _ => QT_to (QT_shl rfl rfl rfl rfl (fun _ => by omega)) (two_u64 hm32)) ?_
          refine TV_q rfl rfl rfl (fun _ => QT_to (QT_subw rfl rfl rfl rfl) (show IntKind.u64.wrap (((2 ^ m : Nat) : Int) - 1) = ((2 ^ m - 1 : Nat) : Int) by rw [IntWalk.u64_in _ ⟨by omega, by omega⟩]; omega)) ?_
          refine TV_q rfl rfl rfl (fun _ => QT_to (QT_bits rfl rfl (by decide) rfl rfl) (mask_u64 hm32 (by omega))) ?_
          refine TV_q rfl rfl rfl (fun _ => QT_convN rfl rfl Tryd.underlying71 Tryd.underlying60 rfl (IntWalk.u32_in _ ⟨by omega, by omega⟩)) ?_
          refine TV_q rfl rfl rfl (fun _ => QT_assign rfl rfl rfl) ?_
          refine TV_q rfl rfl rfl (fun _ => QT_assign rfl rfl rfl) ?_
          refine TV_end ?_
          refine TX_then ?_
          refine TC_ret ?_
          exact TX_ret (.inl rfl) (res2 rfl rfl rfl) ⟨_, ⟨by rw [← hfin], rfl⟩, fun _ h => h⟩
theorem bit_u8 {c k : Nat} (hc : c < 256) (hk : k ≤ 7) : bitsOf .and .u8 ((c : Int).fdiv (2 ^ (min (k : Int).toNat IntKind.u8.bits))) 1 = ((c / 2 ^ k % 2 : Nat) : Int) := by
  rw [shr_nat (k := .u8) (by show k ≤ 8; omega)]
  have h1 : c / 2 ^ k ≤ c := Nat.div_le_self ..
  have h2 := and_u8 (a := c / 2 ^ k) (b := 1) (by omega) (by decide)
  rw [Nat.and_one_is_mod] at h2
  exact h2
theorem toNat_bit (a : Nat) : (a % 2 == 1).toNat = a % 2 := by rcases Nat.mod_two_eq_zero_or_one a with h | h <;> rw [h] <;> rfl
theorem num_take {l : List Bool} {k : Nat} {b : Bool} (h : l[k]? = some b) : num (l.take (k + 1)) = 2 * num (l.take k) + b.toNat := by
  rw [List.take_add_one, h]
  exact num_snoc _ b
theorem rget_spec (w0 : Base) (η : Heap) (sv : Value) (bs : List Nat) (p n : Int) (hs : SlA (St w0 η) sv 1 bs.length (byV bs)) (hb : ∀ c ∈ bs, c < 256) (hp : I64 p) (hn : I64 n) (hl : bs.length ≤ 140737488355328) :
    CallsT Tryd.prog 101 [sv, .int .i64 p, .int .i64 n] (St w0 η) fun v A' => v = .tuple #[.int .u32 ((getV bs p n : Nat) : Int), .int .i64 (getE bs.length p n)] ∧ A' = St w0 η := by
  obtain ⟨_, ad, cap, b, off, rfl, hcap, had, hrd⟩ := hs.some
  refine CallsT.body Tryd.func101 rfl rfl ?_
  simp only [Tryd.ntmps101, slotsOf, Nat.reduceAdd]
  refine TC_seq ?_
  refine TC_reg ?_
  refine TL_q rfl rfl (QT_assign rfl rfl rfl) ?_
  refine TL_q rfl rfl (QT_assign rfl rfl rfl) ?_
  refine TL_nil ?_
  refine TX_then ?_
  refine TC_seq ?_
  refine TC_seq ?_
  refine TC_reg ?_
  refine TL_q rfl rfl (QT_move rfl rfl rfl) ?_
  refine TL_q rfl rfl (QT_lss rfl rfl rfl rfl) ?_
  refine TL_q rfl rfl (QT_move rfl rfl rfl) ?_
  refine TL_q rfl rfl (QT_move rfl rfl rfl) ?_
  refine TL_q rfl rfl (QT_lss rfl rfl rfl rfl) ?_
  refine TL_q rfl rfl (QT_or rfl rfl rfl rfl) ?_
  refine TL_q rfl rfl (QT_move rfl rfl rfl) ?_
  refine TL_q rfl rfl (QT_move rfl rfl rfl) ?_
  refine TL_q rfl rfl (QT_gtr rfl rfl rfl rfl) ?_
  refine TL_q rfl rfl (QT_or rfl rfl rfl rfl) ?_
  refine TL_nil ?_
  refine TX_then ?_
  first
    | refine TC_cond_dec rfl (fun h19 => ?_) (fun h19 => ?_)
    | refine TC_cond rfl (fun h19 => ?_) (fun h19 => ?_)
  ·
    refine TC_seq ?_
    refine TC_reg ?_
    refine TL_q rfl rfl (QT_assign rfl rfl rfl) ?_
    refine TL_q rfl rfl (QT_assign rfl rfl rfl) ?_
    refine TL_nil ?_
    refine TX_then ?_
    refine TC_ret ?_
    refine TX_then_ret ?_
    have e : getE bs.length p n = 1 := by
      simp only [Bool.or_eq_true, decide_eq_true_eq] at h19
      unfold getE; rw [if_pos (by omega)]
    exact TX_ret (.inl rfl) (res2 rfl rfl rfl) ⟨_, ⟨by unfold getV; rw [e, if_neg (by decide)]; rfl, rfl⟩, fun _ h => h⟩
  ·
    refine TC_skip ?_
    refine TX_then ?_
    refine TC_seq ?_
    refine TC_seq ?_
    have h12' : 0 ≤ p ∧ 0 ≤ n ∧ n ≤ 32 := by
      simp only [Bool.or_eq_false_iff, decide_eq_false_iff_not] at h19
      omega
    refine TC_reg ?_
    refine TL_q rfl rfl (QT_move rfl rfl rfl) ?_
    refine TL_q rfl rfl (QT_move rfl rfl rfl) ?_
    refine TL_q rfl rfl (QT_len rfl rfl Tryd.underlying28 rfl) ?_
    refine TL_q rfl rfl (QT_mul rfl rfl rfl rfl (fun _ => ⟨by omega, by omega⟩)) ?_
    refine TL_q rfl rfl (QT_gtr rfl rfl rfl rfl) ?_
    refine TL_q rfl rfl (QT_move rfl rfl rfl) ?_
    refine TL_q rfl rfl (QT_move rfl rfl rfl) ?_
    refine TL_q rfl rfl (QT_move rfl rfl rfl) ?_
    refine TL_q rfl rfl (QT_len rfl rfl Tryd.underlying28 rfl) ?_
    refine TL_q rfl rfl (QT_mul rfl rfl rfl rfl (fun _ => ⟨by omega, by omega⟩)) ?_
    refine TL_q rfl rfl (QT_move rfl rfl rfl) ?_
    refine TL_q rfl rfl (QT_sub rfl rfl rfl rfl (fun _ => ⟨by omega, by omega⟩)) ?_
    refine TL_q rfl rfl (QT_gtr rfl rfl rfl rfl) ?_
    refine TL_q rfl rfl (QT_or rfl rfl rfl rfl) ?_
    refine TL_nil ?_
    refine TX_then ?_
    first
      | refine TC_cond_dec rfl (fun h33 => ?_) (fun h33 => ?_)
      | refine TC_cond rfl (fun h33 => ?_) (fun h33 => ?_)
    ·
      refine TC_seq ?_
      refine TC_reg ?_
      refine TL_q rfl rfl (QT_assign rfl rfl rfl) ?_
      refine TL_q rfl rfl (QT_assign rfl rfl rfl) ?_
      refine TL_nil ?_
      refine TX_then ?_
      refine TC_ret ?_
      refine TX_then_ret ?_
      have e : getE bs.length p n = 5 := by
        simp only [Bool.or_eq_true, decide_eq_true_eq] at h33
        unfold getE; rw [if_neg (by omega), if_pos (by omega)]
      exact TX_ret (.inl rfl) (res2 rfl rfl rfl) ⟨_, ⟨by unfold getV; rw [e, if_neg (by decide)]; rfl, rfl⟩, fun _ h => h⟩
    ·
      refine TC_skip ?_
      refine TX_then ?_
      refine TC_seq ?_
      have h33' : ¬ 8 * (bs.length : Int) - n < p := by
        simp only [Bool.or_eq_false_iff, decide_eq_false_iff_not] at h33
        omega
      have e0 : getE bs.length p n = 0 := by unfold getE; rw [if_neg (by omega), if_neg h33']
      have hv : getV bs p n = num (((byB bs).drop p.toNat).take n.toNat) := by unfold getV; rw [if_pos e0]
      rw [e0, hv]
      obtain ⟨q, rfl⟩ := Int.eq_ofNat_of_zero_le h12'.1
      obtain ⟨m, rfl⟩ := Int.eq_ofNat_of_zero_le h12'.2.1
      rw [Int.toNat_natCast, Int.toNat_natCast]
      have hqm : q + m ≤ 8 * bs.length := by omega
      have hm32 : m ≤ 32 := by omega
      refine TC_reg ?_
      refine TL_q rfl rfl (QT_assign rfl rfl rfl) ?_
      refine TL_nil ?_
      refine TX_then ?_
      refine TC_seq ?_
      refine TC_seq ?_
      refine TC_reg ?_
      refine TL_q rfl rfl (QT_move rfl rfl rfl) ?_
      refine TL_q rfl rfl (QT_assign rfl rfl rfl) ?_
      refine TL_nil ?_
      refine TX_then ?_
      refine TC_block ?_
      refine TC_loop (γ := { i : Nat // i ≤ m }) (fun t => [(0, true, .slice ad bs.length cap), (1, true, .int .i64 (q : Int)), (2, true, .int .i64 (m : Int)), (8, true, .int .u32 ((num (((byB bs).drop q).take t.1) : Nat) : Int)), (9, true, .int .i64 ((q + t.1 : Nat) : Int))]) (fun _ => St w0 η) (fun t => m - t.1) ⟨0, by omega⟩ ⟨rfl, rfl, rfl, rfl, rfl, trivial⟩ (fun _ h => h) ?_
      rintro ⟨i, hi⟩
      dsimp only
      refine TC_seq ?_
      refine TC_seq ?_
      refine TC_reg ?_
      refine TL_q rfl rfl (QT_move rfl rfl rfl) ?_
      refine TL_q rfl rfl (QT_move rfl rfl rfl) ?_
      refine TL_q rfl rfl (QT_move rfl rfl rfl) ?_
      refine TL_q rfl rfl (QT_add rfl rfl rfl rfl (fun _ => ⟨by omega, by omega⟩)) ?_
      refine TL_q rfl rfl (QT_lss rfl rfl rfl rfl) ?_
      refine TL_nil ?_
      refine TX_then ?_
      first
        | refine TC_cond_dec rfl (fun h39 => ?_) (fun h39 => ?_)
        | refine TC_cond rfl (fun h39 => ?_) (fun h39 => ?_)
      ·
        have hi' : i < m := by omega
        obtain ⟨c, hc, hbit⟩ := byB_at (bs := bs) (i := q + i) (by omega)
        have hcb := hb c (List.mem_of_getElem? hc)
        have hq8 : (q + i) / 8 < bs.length := by omega
        have hnl : num (((byB bs).drop q).take i) < 2 ^ i := by
          have := num_lt (((byB bs).drop q).take i)
          rwa [List.length_take, List.length_drop, byB_len, Nat.min_eq_left (by omega)] at this
        have hpi : 2 ^ i ≤ 2 ^ 31 := Nat.pow_le_pow_right (by decide) (by omega)
        have hnum := num_take (l := (byB bs).drop q) (k := i) (b := (c / 2 ^ (7 - (q + i) % 8) % 2 == 1)) (by rw [List.getElem?_drop]; exact hbit)
        rw [toNat_bit] at hnum
        have hb2 : c / 2 ^ (7 - (q + i) % 8) % 2 < 2 := Nat.mod_lt _ (by decide)
        refine TC_skip ?_
        refine TX_then ?_
        refine TC_seq ?_
        refine TC_block ?_
        refine TC_reg ?_
        refine TL_q rfl rfl (QT_move rfl rfl rfl) ?_
        refine TL_q rfl rfl (QT_to (QT_mulw rfl rfl rfl rfl) (show IntKind.u32.wrap (2 * ((num (((byB bs).drop q).take i) : Nat) : Int)) = ((2 * num (((byB bs).drop q).take i) : Nat) : Int) by rw [IntWalk.u32_in _ ⟨by omega, by omega⟩]; simp)) ?_
        refine TL_q rfl rfl (QT_move rfl rfl rfl) ?_
        refine TL_q rfl rfl (QT_move rfl rfl rfl) ?_
        refine TL_q rfl rfl (QT_to (QT_quo rfl rfl rfl rfl (fun _ => ⟨by omega, by omega, by omega⟩)) (show (((q + i : Nat) : Int)) / 8 = (((q + i) / 8 : Nat) : Int) by omega)) ?_
        refine TL_q rfl rfl (QT_indexG ((q + i) / 8) rfl rfl Tryd.underlying28 YtjehicncbpljaaaDoorF.sz_5 rfl rfl rfl (fun _ => hq8) (fun _ => had (by omega))) ?_
        refine TL_q rfl rfl (QT_loadRj ((q + i) / 8) rfl rfl Tryd.underlying5 rfl hrd rfl (fun _ => byV_at hc)) ?_
        refine TL_q rfl rfl (QT_move rfl rfl rfl) ?_
        refine TL_q rfl rfl (QT_rem rfl rfl rfl rfl (fun _ => ⟨by omega, by omega⟩)) ?_
        refine TL_q rfl rfl (QT_to (QT_sub rfl rfl rfl rfl (fun _ => ⟨by omega, by omega⟩)) (show (7 : Int) - ((q + i : Nat) : Int) % 8 = ((7 - (q + i) % 8 : Nat) : Int) by omega)) ?_
        refine TL_q rfl rfl (QT_shr rfl rfl rfl rfl (fun _ => by omega)) ?_
        refine TL_q rfl rfl (QT_to (QT_bits rfl rfl (by decide) rfl rfl) (bit_u8 hcb (by omega))) ?_
        refine TL_q rfl rfl (QT_convN rfl rfl Tryd.underlying5 Tryd.underlying60 rfl (IntWalk.u32_in _ ⟨by omega, by omega⟩)) ?_
        refine TL_q rfl rfl (QT_to (QT_addw rfl rfl rfl rfl) (show IntKind.u32.wrap (((2 * num (((byB bs).drop q).take i) : Nat) : Int) + ((c / 2 ^ (7 - (q + i) % 8) % 2 : Nat) : Int)) = ((num (((byB bs).drop q).take (i + 1)) : Nat) : Int) by rw [IntWalk.u32_in _ ⟨by omega, by omega⟩, hnum]; simp)) ?_
        refine TL_q rfl rfl (QT_assign rfl rfl rfl) ?_
        refine TL_nil ?_
        refine TX_block_normal ?_
        refine TX_then ?_
        refine TC_reg ?_
        refine TL_q rfl rfl (QT_move rfl rfl rfl) ?_
        refine TL_q rfl rfl (QT_add rfl rfl rfl rfl (fun _ => ⟨by omega, by omega⟩)) ?_
        refine TL_q rfl rfl (QT_assign rfl rfl rfl) ?_
        refine TL_nil ?_
        exact TX_round ⟨i + 1, by omega⟩ (by show m - (i + 1) < m - i; omega) ⟨rfl, rfl, rfl, rfl, slotI rfl (by dsimp only; omega), trivial⟩ (fun _ h => h)
      ·
        refine TC_exit ?_
        refine TX_then_exit ?_
        refine TX_then_exit ?_
        refine TX_block_here ?_
        refine TX_then ?_
        refine TC_seq ?_
        refine TC_reg ?_
        refine TL_q rfl rfl (QT_move rfl rfl rfl) ?_
        refine TL_q rfl rfl (QT_assign rfl rfl rfl) ?_
        refine TL_q rfl rfl (QT_assign rfl rfl rfl) ?_
        refine TL_nil ?_
        refine TX_then ?_
        refine TC_ret ?_
        obtain rfl : i = m := by omega
        exact TX_ret (.inl rfl) (res2 rfl rfl rfl) ⟨_, ⟨rfl, rfl⟩, fun _ h => h⟩
end Go.Proofs.YtjehicncbpljaaaDoor
