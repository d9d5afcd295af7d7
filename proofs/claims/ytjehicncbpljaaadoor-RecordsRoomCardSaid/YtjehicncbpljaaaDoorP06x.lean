/- ROWS OF BITS: a new one; its bytes; a number put with others' memory about. -/
import Derived.Test.YtjehicncbpljaaaDoorS11a
import Derived.Test.YtjehicncbpljaaaDoorP06f
namespace Go.Proofs.YtjehicncbpljaaaDoor
open Go Go.Gx Go.RowKit
set_option maxRecDepth 100000
theorem newRowS (w0 : Base) (η : Heap) :
    CallsT Tryd.prog 78 [] (St w0 η) fun v A' => ∃ rb K, v = .pointer (some ⟨rb, 0, none⟩) ∧ RowAt rb [] K ∧ A' = St w0 (K ++ η) :=
  (new_spec w0 η).mono fun v A' ⟨rb, hv, hA⟩ => ⟨St w0 ([(rb, 201, rowC (.slice none 0 0) 0 1)] ++ η), ⟨rb, [(rb, 201, rowC (.slice none 0 0) 0 1)], hv, ⟨[], _, 0, [], Frag.nil _ _, Packed.nil, by decide, rfl⟩, rfl⟩, fun w h => by rw [hA] at h; exact h⟩
theorem byBInj : ∀ {a b : List Nat}, byB a = byB b → (∀ c ∈ a, c < 256) → (∀ c ∈ b, c < 256) → a = b
  | [], [], _, _, _ => rfl
  | [], c :: b, h, _, _ => by have := congrArg List.length h; rw [byB_len, byB_len] at this; simp at this
  | c :: a, [], h, _, _ => by have := congrArg List.length h; rw [byB_len, byB_len] at this; simp at this
  | c :: a, d :: b, h, ha, hb => by
    have h1 : bitsN 8 c ++ byB a = bitsN 8 d ++ byB b := by simpa [byB] using h
    obtain ⟨h2, h3⟩ := List.append_inj h1 (by rw [bitsN_len, bitsN_len])
    have h4 := congrArg num h2
    rw [num_bitsN, num_bitsN, Nat.mod_eq_of_lt (ha c (List.mem_cons_self ..)), Nat.mod_eq_of_lt (hb d (List.mem_cons_self ..))] at h4
    rw [h4, byBInj h3 (fun x hx => ha x (List.mem_cons_of_mem _ hx)) (fun x hx => hb x (List.mem_cons_of_mem _ hx))]
theorem RowAt.bytesX {w0 : Base} {rb : Nat} {l : List Bool} {K : Heap} (X η : Heap) (hK : RowAt rb l K) (hl : l.length ≤ 600000) :
    CallsT Tryd.prog 80 [.pointer (some ⟨rb, 0, none⟩)] (St w0 (X ++ (K ++ η))) fun v A' => ∃ H2, Frag 5 1 v (packB l).length (byV (packB l)) H2 ∧ A' = St w0 (H2 ++ (X ++ (K ++ η))) := by
  have h := RowAt.bytes (w0 := w0) (X ++ η) hK hl
  refine fun w hA => (h.mono ?_) w (hA.cnt fun p => by simp only [List.countP_append]; omega)
  rintro v A' ⟨bs, H2, hF, ⟨hb1, hb2⟩, rfl⟩
  obtain rfl : bs = packB l := byBInj (by rw [hb1, byB_packB]) hb2 (packB_lt l)
  exact ⟨_, ⟨H2, hF, rfl⟩, fun w h => h.cnt fun p => by simp only [List.countP_append]; omega⟩
theorem RefAt.bytesX {w0 : Base} {mb : Nat} {l : List Bool} {K : Heap} (η : Heap) (hK : RefAt mb l K) (hl : l.length ≤ 600000) :
    CallsT Tryd.prog 85 [.pointer (some ⟨mb, 0, none⟩)] (St w0 (K ++ η)) fun v A' => ∃ H2, Frag 5 1 v (packB l).length (byV (packB l)) H2 ∧ A' = St w0 (H2 ++ (K ++ η)) := by
  refine (rbytes_spec w0 η K mb l hK hl).mono ?_
  rintro v A' ⟨bs, H2, hF, ⟨hb1, hb2⟩, rfl⟩
  obtain rfl : bs = packB l := byBInj (by rw [hb1, byB_packB]) hb2 (packB_lt l)
  exact ⟨_, ⟨H2, hF, rfl⟩, fun w h => h⟩
theorem RowAt.putX {w0 : Base} {rb : Nat} {l : List Bool} {K : Heap} (X η : Heap) (hK : RowAt rb l K) {v w : Nat} (hv : v < 4294967296) (hw : w ≤ 32) (hl : l.length ≤ 524288) :
    CallsT Tryd.prog 79 [.pointer (some ⟨rb, 0, none⟩), .int .u32 (v : Int), .int .i64 (w : Int)] (St w0 (X ++ (K ++ η))) fun r A' => ∃ K', r = .int .i64 (putE l.length v w) ∧ RowAt rb (putL l v w) K' ∧ A' = St w0 (X ++ (K' ++ η)) := by
  have h := put_spec w0 (X ++ η) K rb l v w hK hv ⟨by omega, by omega⟩ hl
  refine fun w hA => (h.mono ?_) w (hA.cnt fun p => by simp only [List.countP_append]; omega)
  rintro r A' ⟨K', hr, hK', rfl⟩
  exact ⟨_, ⟨K', hr, hK', rfl⟩, fun w h => h.cnt fun p => by simp only [List.countP_append]; omega⟩
theorem putL_okX {l : List Bool} {v w : Nat} (hw : w ≤ 32) (hv : v < 2 ^ w) (h : l.length + w ≤ 524288) : putL l v w = l ++ bitsN w v := by
  unfold putL
  rw [if_pos (putE_zero hw hv h), Int.toNat_natCast]
theorem fitB_appendX : ∀ {a b : Ws} {xs zs : List Nat}, a.length = xs.length → fitB (a ++ b) (xs ++ zs) = (fitB a xs && fitB b zs)
  | [], b, [], zs, _ => by simp [fitB]
  | [], _, _ :: _, _, h => by simp at h
  | _ :: _, _, [], _, h => by simp at h
  | (w, m) :: a, b, x :: xs, zs, h => by
    simp only [List.cons_append, fitB]
    rw [fitB_appendX (by simpa using h), Bool.and_assoc]
theorem enc_appendX : ∀ {a b : Ws} {xs zs : List Nat}, a.length = xs.length → enc (a ++ b) (xs ++ zs) = enc a xs ++ enc b zs
  | [], b, [], zs, _ => by simp [enc]
  | [], _, _ :: _, _, h => by simp at h
  | _ :: _, _, [], _, h => by simp at h
  | (w, m) :: a, b, x :: xs, zs, h => by
    simp only [List.cons_append, enc]
    rw [enc_appendX (by simpa using h), List.append_assoc]
theorem take_snocX {α : Type} {l : List α} {k : Nat} {x : α} (h : l[k]? = some x) : l.take (k + 1) = l.take k ++ [x] := by rw [List.take_add_one, h]; rfl
theorem fitB_atX : ∀ {ws : Ws} {xs : List Nat}, fitB ws xs = true → ∀ {k w m x : Nat}, ws[k]? = some (w, m) → xs[k]? = some x → x < 2 ^ w
  | [], _, _, k, w, m, x, h, _ => by simp at h
  | _ :: _, [], _, k, w, m, x, _, h => by simp at h
  | (w, m) :: ws, x :: xs, h, 0, _, _, _, h1, h2 => by
    cases h1; cases h2
    simp only [fitB, Bool.and_eq_true, decide_eq_true_eq] at h
    exact h.1
  | (w, m) :: ws, x :: xs, h, k + 1, _, _, _, h1, h2 => by
    simp only [fitB, Bool.and_eq_true, decide_eq_true_eq] at h
    exact fitB_atX h.2 h1 h2
end Go.Proofs.YtjehicncbpljaaaDoor
