/- RECORDS: slices.Chunk, and the function that it gives. -/
import Derived.Test.YtjehicncbpljaaaDoorS09d
import Derived.Test.YtjehicncbpljaaaDoorW
namespace Go.Gx
open Go Go.RowKit
section
variable {P : Program} {n : Nat} {ops : Array Oper} {o : Oper} {σ : Slots} {A : World → Prop} {g : Bool} {x y z u : Operand} {c1 c2 c3 c4 : Bool} {t : TypeId} {k : IntKind} {p : Int}
/-- s[l:h:m] -/
theorem QT_slcLHM {e size len cap : Nat} {ad : Option Addr} {q r : Int} {k2 k3 : IntKind} (l h m : Nat) (hg : gdc ops σ o = some g) (hop : o.op = .slice t x (some y) (some z) (some u)) (hu : P.underlying t = some (.slice e)) (hm : Sz P e size)
    (hx : ev σ x = some (c1, .slice ad len cap)) (hy : ev σ y = some (c2, .int k p)) (hz : ev σ z = some (c3, .int k2 q)) (hv : ev σ u = some (c4, .int k3 r)) (hp : p = (l : Int)) (hq : q = (h : Int)) (hr : r = (m : Int)) (hl : g = true → l ≤ h ∧ h ≤ m ∧ m ≤ cap)
    (hc : g = true → c1 = true ∧ c2 = true ∧ c3 = true ∧ c4 = true := by first | exact fun _ => ⟨rfl, rfl, rfl, rfl⟩ | (intro h; first | grind | simp_all)) : QT P n ops o σ A g (.slice (if m = l then ad else ad.map (·.add (l * size))) (h - l) (m - l)) :=
  QT.mk hg fun a w hf _ hgt => by
    have e1 := fun code => run_bound (P := P) (w := w) (k := k) (code := code) hp (hl hgt).1
    have e2 := fun code => run_bound (P := P) (w := w) (k := k2) (code := code) hq (hl hgt).2.1
    have e3 := fun code => run_bound (P := P) (w := w) (k := k3) (code := code) hr (hl hgt).2.2
    simp [execOp, hop, hf.eval hx (hc hgt).1, hf.eval hy (hc hgt).2.1, hf.eval hz (hc hgt).2.2.1, hf.eval hv (hc hgt).2.2.2, Instr.sliceAt, Instr.slice, Instr.sliceBounds, run_underlying hu, e1, e2, e3, run_sizeOf hm]
end
section
variable {P : Program}
/-- what yield does at X -/
def Yields (P : Program) (l N : Nat) (cv : Nat → Value) (X : Nat → World → Prop) : Prop :=
  ∀ k W, k < N → X k W → ∃ fn tmps assign body, (Instr.yield l #[cv k]).run P W = .ok (.round l fn tmps assign body) W ∧ ∀ m', RoundIn (FR none) m' P l fn tmps assign body W fun e W' => e = .returned (.bool true) ∧ X (k + 1) W'
theorem iterOk_of {gf : FuncId} {fn : Func} {c : Code} {lb : List Value} {N l : Nat} {cv : Nat → Value} {X : Nat → World → Prop} (hf : P.funcs[gf]? = some fn) (hb : fn.body = some c) (hn : Nat.ble (lb.length + 1) fn.ntmps = true)
    (h : Yields P l N cv X → ∀ m, TCI P fn.ntmps none m c (bodyPost P fn fun e w' => ∃ v A', e = .returned v ∧ A' = X N ∧ A' w') (slotsOf (.func (.yield l) #[] #[] :: lb) 0) (X 0)) : IterOk P gf lb.toArray N cv l X := by
  intro w h0 hy m
  have hA : (#[.func (.yield l) #[] #[]] ++ lb.toArray : Array Value) = (.func (.yield l) #[] #[] :: lb).toArray := by apply Array.ext'; simp
  rw [hA]
  refine callsIn_of_wp hf hb trivial ?_
  refine wpIn_mono (Q := bodyPost P fn fun e w' => ∃ v A', e = .returned v ∧ A' = X N ∧ A' w') (h hy m (fun a w hx => by obtain ⟨v, A', he, _⟩ := hx; exact Ending.noConfusion he) _ w ⟨?_, rfl, fun t c v h => ?_⟩ h0) fun e a1 w1 h1 => ?_
  rotate_left 2
  ·
    cases e with
    | normal => obtain ⟨hd, v, hr, v', A', he, rfl, hX⟩ := h1; exact ⟨hd, v, hr, ⟨v', he⟩, hX⟩
    | ret => obtain ⟨hd, v, hr, v', A', he, rfl, hX⟩ := h1; exact ⟨hd, v, hr, ⟨v', he⟩, hX⟩
    | panic ch => obtain ⟨v', A', he, _⟩ := h1.2; exact Ending.noConfusion he
    | outgrown => obtain ⟨v', A', he, _⟩ := h1; exact Ending.noConfusion he
    | exit id => exact h1
    | goto id => exact h1
  · have := Nat.le_of_ble_eq_true hn
    simp; omega
  · obtain ⟨rfl, _, h3⟩ := look_slotsOf _ 0 t c v h
    simp only [Nat.sub_zero] at h3
    have hlt := (List.getElem?_eq_some_iff.1 h3).1
    simp only [Array.getD_eq_getD_getElem?, cond_true]
    rw [Array.getElem?_append_left (by simpa using hlt)]
    simp [h3]
end
end Go.Gx
namespace Go.Proofs.YtjehicncbpljaaaDoor
open Go Go.Gx Go.RowKit
set_option maxRecDepth 100000
/-- the k-th part of a slice -/
def chkV (ad : Option Addr) (sz k : Nat) : Value := .slice (if k * sz + sz = k * sz then ad else ad.map (·.add (k * sz * 1))) (k * sz + sz - k * sz) (k * sz + sz - k * sz)
theorem chkV_sla {A : World → Prop} {ad : Option Addr} {n cap sz k : Nat} {cs : List Value} (h : SlA A (.slice ad n cap) 1 n cs) (hk : k * sz + sz ≤ n) (h0 : 0 < sz) : SlA A (chkV ad sz k) 1 sz ((cs.drop (k * sz)).take sz) := by
  unfold chkV
  obtain ⟨hl, ad', cap', hv, hc, hr⟩ := h
  obtain ⟨rfl, _, rfl⟩ := Value.slice.inj hv
  rw [if_neg (by omega), show k * sz + sz - k * sz = sz by omega]
  refine ⟨by rw [List.length_take, List.length_drop]; omega, _, _, rfl, ⟨Nat.le_refl _, by omega⟩, .inr ?_⟩
  obtain ⟨b, off, rfl, hrd⟩ := hr.resolve_left (by omega)
  refine ⟨b, off + k * sz, by simp [add_mk], fun w hw j v hv => ?_⟩
  rw [List.getElem?_take] at hv
  split at hv
  · rw [Nat.add_assoc]
    exact hrd w hw _ v (by rw [← List.getElem?_drop]; exact hv)
  · cases hv
set_option maxHeartbeats 1000000 in
theorem chunk_iter (X : Nat → World → Prop) (hcalm : ∀ k, Go.Gx.Calm (X k)) (b1 b2 n cap sz N l : Nat) (ad : Option Addr) (hcap : n ≤ cap ∧ cap ≤ 9223372036854775807) (hz : 0 < sz) (hN : N * sz = n) (hnm : n ≤ 1000000) (h1 : ∀ k, Rd (X k) b1 0 [.slice ad n cap]) (h2 : ∀ k, Rd (X k) b2 0 [.int .i64 (sz : Int)]) :
    IterOk Tryd.prog 97 [.pointer (some ⟨b1, 0, none⟩), .pointer (some ⟨b2, 0, none⟩)].toArray N (chkV ad sz) l X := by
  refine iterOk_of Tryd.func97 rfl rfl fun hY m => ?_
  simp only [Tryd.ntmps97, slotsOf, Nat.reduceAdd]
  refine TCI_seq ?_
  refine TCI_regI ?_
  refine TLI_q rfl rfl (QT_assign rfl rfl rfl) ?_
  refine TLI_nil ?_
  refine TXI_then ?_
  refine TCI_block ?_
  refine TCI_loop (γ := { k : Nat // k ≤ N }) (fun k => [(0, true, .func (.yield l) #[] #[]), (1, true, .pointer (some ⟨b1, 0, none⟩)), (2, true, .pointer (some ⟨b2, 0, none⟩)), (4, true, .int .i64 ((k.1 * sz : Nat) : Int))]) (fun k => X k.1) (fun k => N - k.1) ⟨0, Nat.zero_le _⟩ ⟨rfl, rfl, rfl, slotI rfl (by show (0 : Int) = ((0 * sz : Nat) : Int); omega), trivial⟩ (fun _ h => h) ?_
  rintro ⟨k, hkN⟩
  dsimp only at hkN ⊢
  have hkn : k * sz ≤ n := by rw [← hN]; exact Nat.mul_le_mul_right _ hkN
  refine TCI_seq ?_
  refine TCI_seq ?_
  refine TCI_regI ?_
  refine TLI_q rfl rfl (QT_move rfl rfl rfl) ?_
  refine TLI_q rfl rfl (QT_loadRj (v := .slice ad n cap) 0 rfl rfl Tryd.underlying28 rfl (h1 k) rfl (fun _ => rfl)) ?_
  refine TLI_q rfl rfl (QT_len rfl rfl Tryd.underlying28 rfl) ?_
  refine TLI_q rfl rfl (QT_lss rfl rfl rfl rfl) ?_
  refine TLI_nil ?_
  refine TXI_then ?_
  first
    | refine TCI_cond_dec rfl (fun h9 => ?_) (fun h9 => ?_)
    | refine TCI_cond rfl (fun h9 => ?_) (fun h9 => ?_)
  ·
    have hk : k < N := by
      refine Classical.byContradiction fun hk => ?_
      have : k = N := by omega
      rw [this] at h9
      omega
    have hks : k * sz + sz ≤ n := by
      have : (k + 1) * sz ≤ N * sz := Nat.mul_le_mul_right _ hk
      rw [Nat.add_mul] at this
      omega
    have hcv : chkV ad sz k = .slice (if k * sz + sz = k * sz then ad else ad.map (·.add (k * sz * 1))) (k * sz + sz - k * sz) (k * sz + sz - k * sz) := rfl
    have hk1 : (k + 1) * sz = k * sz + sz := by rw [Nat.add_mul]; omega
    generalize hcE : k * sz = c at hkn hks hcv hk1 h9 ⊢
    refine TCI_skip ?_
    refine TXI_then ?_
    refine TCI_seq ?_
    refine TCI_block ?_
    refine TCI_seq ?_
    refine TCI_draw [(0, 0), (1, 0), (2, 0), (3, 0), (4, 0), (5, 0), (6, 0)] YtjehicncbpljaaaDoorF.mixed (by kernel_rfl) (hcalm _) ?_
    refine TV_ql rfl rfl rfl (QT_loadRj (v := .int .i64 (sz : Int)) 0 rfl rfl Tryd.underlying3 rfl (h2 k) rfl (fun _ => rfl)) ?_
    refine TV_ql rfl rfl rfl (QT_loadRj (v := .slice ad n cap) 0 rfl rfl Tryd.underlying28 rfl (h1 k) rfl (fun _ => rfl)) ?_
    refine TV_q rfl rfl rfl (fun _ => QT_move rfl rfl rfl) ?_
    refine TV_q rfl rfl rfl (fun _ => QT_slcL c rfl rfl rfl rfl Tryd.underlying28 YtjehicncbpljaaaDoorF.sz_5 rfl rfl rfl (fun _ => hkn)) ?_
    refine TV_q rfl rfl rfl (fun _ => QT_len rfl rfl Tryd.underlying28 rfl) ?_
    refine TV_q rfl rfl rfl (fun _ => QT_min rfl rfl rfl rfl) ?_
    refine TV_q rfl rfl rfl (fun _ => QT_assign rfl rfl rfl) ?_
    refine TV_end ?_
    refine TXI_then ?_
    refine TCI_seq ?_
    refine TCI_regI ?_
    refine TLI_q rfl rfl (QT_move rfl rfl rfl) ?_
    refine TLI_q rfl rfl (QT_loadRj (v := .slice ad n cap) 0 rfl rfl Tryd.underlying28 rfl (h1 k) rfl (fun _ => rfl)) ?_
    refine TLI_q rfl rfl (QT_move rfl rfl rfl) ?_
    refine TLI_q rfl rfl (QT_move rfl rfl rfl) ?_
    refine TLI_q rfl rfl (QT_move rfl rfl rfl) ?_
    refine TLI_q rfl rfl (QT_add rfl rfl rfl rfl (fun _ => ⟨by omega, by omega⟩)) ?_
    refine TLI_q rfl rfl (QT_move rfl rfl rfl) ?_
    refine TLI_q rfl rfl (QT_move rfl rfl rfl) ?_
    refine TLI_q rfl rfl (QT_add rfl rfl rfl rfl (fun _ => ⟨by omega, by omega⟩)) ?_
    refine TLI_q rfl rfl (QT_slcLHM c (c + sz) (c + sz) rfl rfl Tryd.underlying28 YtjehicncbpljaaaDoorF.sz_5 rfl rfl rfl rfl rfl (by omega) (by omega) (fun _ => ⟨by omega, by omega, by omega⟩)) ?_
    refine TLI_yield (A' := X (k + 1)) (l := l) rfl rfl rfl rfl rfl rfl (fun W hW => by rw [← hcv]; exact hY k W hk hW) ?_
    refine TLI_q rfl rfl (QT_not rfl rfl rfl) ?_
    refine TLI_nil ?_
    refine TXI_then ?_
    refine TCI_cond rfl (fun h => absurd h (by decide)) (fun _ => ?_)
    refine TCI_skip ?_
    refine TX_block_normal ?_
    refine TXI_then ?_
    refine TCI_regI ?_
    refine TLI_q rfl rfl (QT_move rfl rfl rfl) ?_
    refine TLI_q rfl rfl (QT_loadRj (v := .int .i64 (sz : Int)) 0 rfl rfl Tryd.underlying3 rfl (h2 (k + 1)) rfl (fun _ => rfl)) ?_
    refine TLI_q rfl rfl (QT_add rfl rfl rfl rfl (fun _ => ⟨by omega, by omega⟩)) ?_
    refine TLI_q rfl rfl (QT_assign rfl rfl rfl) ?_
    refine TLI_nil ?_
    exact TX_round ⟨k + 1, hk⟩ (by show N - (k + 1) < N - k; omega) ⟨rfl, rfl, rfl, slotI rfl (by show (c : Int) + (sz : Int) = (((k + 1) * sz : Nat) : Int); omega), trivial⟩ (fun _ h => h)
  ·
    obtain rfl : k = N := by
      refine Classical.byContradiction fun hk => ?_
      have : (k + 1) * sz ≤ N * sz := Nat.mul_le_mul_right _ (by omega)
      rw [Nat.add_mul] at this
      omega
    refine TCI_exit ?_
    refine TX_then_exit ?_
    refine TX_then_exit ?_
    refine TX_block_here ?_
    exact TX_ret (.inr rfl) (res0 rfl) ⟨_, rfl, fun _ h => h⟩
theorem chunk_spec (w0 : Base) (η : Heap) (n cap sz : Nat) (ad : Option Addr) (hz : 0 < sz) :
    CallsT Tryd.prog 29 [.slice ad n cap, .int .i64 (sz : Int)] (St w0 η) fun v A' => ∃ b1 b2, v = .func (.func 97) #[] #[.pointer (some ⟨b1, 0, none⟩), .pointer (some ⟨b2, 0, none⟩)] ∧ A' = St w0 ((b2, 3, [.int .i64 (sz : Int)]) :: (b1, 28, [.slice ad n cap]) :: η) := by
  refine CallsT.body Tryd.func29 rfl rfl ?_
  simp only [Tryd.ntmps29, slotsOf, Nat.reduceAdd]
  refine TC_seq ?_
  refine TC_reg ?_
  refine TL_e rfl rfl rfl (rfl) (ET_box rfl rfl) ?_
  rintro _ _ ⟨b2, rfl, rfl⟩
  refine TL_e rfl rfl rfl (rfl) (ET_box rfl rfl) ?_
  rintro _ _ ⟨b3, rfl, rfl⟩
  refine TL_q rfl rfl (QT_assign rfl rfl rfl) ?_
  refine TL_nil ?_
  refine TX_then ?_
  refine TC_seq ?_
  refine TC_seq ?_
  refine TC_reg ?_
  first
    | refine TL_q rfl rfl (QT_load 0 rfl rfl Tryd.underlying3 rfl rfl rfl (fun _ => rfl)) ?_
    | refine TL_q rfl rfl (QT_load 1 rfl rfl Tryd.underlying3 rfl rfl rfl (fun _ => rfl)) ?_
    | refine TL_q rfl rfl (QT_load 2 rfl rfl Tryd.underlying3 rfl rfl rfl (fun _ => rfl)) ?_
  refine TL_q rfl rfl (QT_lss rfl rfl rfl rfl) ?_
  refine TL_nil ?_
  refine TX_then ?_
  refine TC_cond rfl (fun h => absurd (h.symm.trans (decide_eq_false (by omega))) (by decide)) (fun _ => ?_)
  refine TC_skip ?_
  refine TX_then ?_
  refine TC_seq ?_
  refine TC_reg ?_
  refine TL_q rfl rfl (QT_makeFunc rfl rfl rfl rfl) ?_
  refine TL_q rfl rfl (QT_assign rfl rfl rfl) ?_
  refine TL_nil ?_
  refine TX_then ?_
  refine TC_ret ?_
  exact TX_ret (.inl rfl) (res1 rfl rfl) ⟨_, ⟨b2, b3, rfl, rfl⟩, fun _ h => h⟩
end Go.Proofs.YtjehicncbpljaaaDoor
