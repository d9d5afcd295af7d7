/- MORE OPERATIONS OF THE LOGIC OF GxA: parting at a guard; structs and slices that are written out; a result that lies in memory. Program-independent. -/
import Derived.Test.YtjehicncbpljaaaDoorB
namespace Go.Gx
open Go Go.RowKit
section
variable {P : Program} {n : Nat} {ops : Array Oper} {o : Oper} {σ : Slots} {A : World → Prop} {g : Bool} {v : Value} {x y z : Operand} {c c1 c2 c3 : Bool} {t t2 : TypeId} {k : IntKind} {p q : Int}

/-- The ways part at a test that is not known: on each it is known. -/
theorem TL_split {rest : List Oper} {Q : Exit → Act → World → Prop} {r : Nat} {b : Bool} (hl : look σ r = some (true, .bool b)) (h1 : b = true → TL P n ops Q rest ((r, true, .bool true) :: σ) A) (h2 : b = false → TL P n ops Q rest ((r, true, .bool false) :: σ) A) : TL P n ops Q rest σ A := by
  intro a w hf hA
  have key : ∀ b', b = b' → Fr n ((r, true, .bool b') :: σ) a := by
    rintro b' rfl
    refine ⟨hf.size, hf.defers, fun t c v h => ?_⟩
    simp only [look] at h
    cases hb : Nat.beq r t with
    | true =>
      have : r = t := Nat.eq_of_beq_eq_true hb
      subst this
      simp only [hb, cond_true, Option.some.injEq, Prod.mk.injEq] at h
      obtain ⟨rfl, rfl⟩ := h
      exact hf.known r true _ hl
    | false => simp only [hb, cond_false] at h; exact hf.known t c v h
  cases hb : b with
  | true => exact h1 hb a w (key true hb) hA
  | false => exact h2 hb a w (key false hb) hA
theorem QT_or_t {b : Bool} (hg : gdc ops σ o = some g) (hop : o.op = .pick x (.const (.bool true)) y) (hx : ev σ x = some (c1, .bool b)) (hb : g = true → b = true)
    (hc : g = true → c1 = true := by first | exact fun _ => rfl | exact id | (intro h; first | grind | simp_all)) : QT P n ops o σ A g (.bool true) :=
  QT.mk hg fun a w hf _ h => by
    have e : a.eval (.const (.bool true)) = .bool true := rfl
    simp [execOp, hop, hf.eval hx (hc h), asBool, e, hb h]
theorem QT_and_f {b : Bool} (hg : gdc ops σ o = some g) (hop : o.op = .pick x y (.const (.bool false))) (hx : ev σ x = some (c1, .bool b)) (hb : g = true → b = false)
    (hc : g = true → c1 = true := by first | exact fun _ => rfl | exact id | (intro h; first | grind | simp_all)) : QT P n ops o σ A g (.bool false) :=
  QT.mk hg fun a w hf _ h => by
    have e : a.eval (.const (.bool false)) = .bool false := rfl
    simp [execOp, hop, hf.eval hx (hc h), asBool, e, hb h]
theorem run_equal_bool {w : World} {b b' : Bool} (hu : P.underlying t = some .bool) : (Op.equal t (.bool b) (.bool b')).run P w = .ok (b == b') w := by
  have h : ∀ d, (Op.equalIn (d + 1) t (.bool b) (.bool b')).run P w = .ok (b == b') w := fun d => by
    simp only [Op.equalIn, Sem.run_bind, run_underlying hu, Result.andThen_ok, Sem.run_pure]
  exact h 9999
theorem run_binEq {w : World} {u v : Value} {r : Bool} (h1 : binOp .eql t u v = (do pure (.bool (← Op.equal t u v)))) (h2 : (Op.equal t u v).run P w = .ok r w) : (binOp .eql t u v).run P w = .ok (.bool r) w := by
  rw [h1, Sem.run_bind, h2]; rfl
theorem run_binNe {w : World} {u v : Value} {r : Bool} (h1 : binOp .neq t u v = (do pure (.bool (!(← Op.equal t u v))))) (h2 : (Op.equal t u v).run P w = .ok r w) : (binOp .neq t u v).run P w = .ok (.bool (!r)) w := by
  rw [h1, Sem.run_bind, h2]; rfl
theorem QT_eqlb {b b' : Bool} (hg : gdc ops σ o = some g) (hop : o.op = .binOp .eql t x y t2) (hu : P.underlying t = some .bool) (hx : ev σ x = some (c1, .bool b)) (hy : ev σ y = some (c2, .bool b'))
    (hc : g = true → c1 = true ∧ c2 = true := by first | exact fun _ => ⟨rfl, rfl⟩ | (intro h; first | grind | simp_all)) : QT P n ops o σ A g (.bool (b == b')) :=
  QT.mk hg fun a w hf _ h => by
    have h1 := run_binEq (P := P) (w := w) rfl (run_equal_bool (b := b) (b' := b') hu)
    simp only [execOp, hop, hf.eval hx (hc h).1, hf.eval hy (hc h).2, eqGuard, Sem.run_bind]
    simp [h1]
theorem QT_neqb {b b' : Bool} (hg : gdc ops σ o = some g) (hop : o.op = .binOp .neq t x y t2) (hu : P.underlying t = some .bool) (hx : ev σ x = some (c1, .bool b)) (hy : ev σ y = some (c2, .bool b'))
    (hc : g = true → c1 = true ∧ c2 = true := by first | exact fun _ => ⟨rfl, rfl⟩ | (intro h; first | grind | simp_all)) : QT P n ops o σ A g (.bool (!(b == b'))) :=
  QT.mk hg fun a w hf _ h => by
    have h1 := run_binNe (P := P) (w := w) rfl (run_equal_bool (b := b) (b' := b') hu)
    simp only [execOp, hop, hf.eval hx (hc h).1, hf.eval hy (hc h).2, eqGuard, Sem.run_bind]
    simp [h1]
theorem resC {w0 : Base} {η : Heap} {fn : Func} {r b T : Nat} {cs : List Value} {d : TypeDesc} (i : Nat) (hr : fn.results = #[.cell r t]) (hp : look σ r = some (true, .pointer (some ⟨b, 0, none⟩))) (hu : P.underlying t = some d) (hd : isAggD d = true)
    (hi : nth η i = some (b, T, cs)) (hm : Sz P t cs.length) : ∀ a w, Fr n σ a → St w0 η w → (results fn a.tmps).run P w = .ok (.agg cs.toArray) w := by
  intro a w hf hA
  have hk := hf.known r true _ hp
  simp only [cond_true] at hk
  have h1 := hA.loadCells (P := P) (off := 0) (m := cs.length) hi (by omega)
  simp only [List.drop_zero, List.take_length] at h1
  have hk' : a.tmps[r]?.getD undef = .pointer (some ⟨b, 0, none⟩) := by simpa using hk
  simp [results, hr, hk', asAddr, loadVar, run_isAgg hu, hd, run_sizeOf hm, h1]

theorem Rd.own {w0 : Base} {η : Heap} {b T : Nat} {cs : List Value} (i : Nat) (hi : nth η i = some (b, T, cs)) : Rd (St w0 η) b 0 cs := by
  intro w hw j v hv
  rw [Nat.zero_add, hw.cell hi]; exact hv
theorem Rd.weak {A' : World → Prop} {b off : Nat} {cs : List Value} (h : Rd A b off cs) (hw : ∀ w, A' w → A w) : Rd A' b off cs := fun w hA => h w (hw w hA)

/-- A store that covers a whole block. -/
theorem ET_storeW {w0 : Base} {η : Heap} {b T : Nat} {cs vs : List Value} (i : Nat) (hop : o.op = .store t x y) (hx : ev σ x = some (true, .pointer (some ⟨b, 0, none⟩))) (hy : ev σ y = some (true, .agg vs.toArray))
    (hm : Sz P t vs.length) (hi : nth η i = some (b, T, cs)) (h1 : vs.all Value.oneCell' = true) (hl : Nat.beq vs.length cs.length = true) : ET P n o σ (St w0 η) fun r A' => r = undef ∧ A' = St w0 (upd η i vs) := by
  have hl' : vs.length = cs.length := Nat.eq_of_beq_eq_true hl
  have h := ET_store (P := P) (n := n) (w0 := w0) (off := 0) (vs := vs) i hop hx hy rfl hm hi h1 (Nat.ble_eq_true_of_le (by omega))
  have e : ∀ (vs pre cs : List Value), vs.length = cs.length → setAt (pre ++ cs) pre.length vs = pre ++ vs := by
    intro vs
    induction vs with
    | nil => intro pre cs h; have : cs = [] := List.eq_nil_of_length_eq_zero (by simpa using h.symm); subst this; rfl
    | cons v r ih =>
      intro pre cs h
      cases cs with
      | nil => simp at h
      | cons u cs =>
        simp only [List.length_cons, Nat.add_right_cancel_iff] at h
        have h1 : (pre ++ u :: cs).set pre.length v = (pre ++ [v]) ++ cs := by simp [List.set_append]
        have h2 := ih (pre ++ [v]) cs h
        simp only [setAt, h1]
        simp only [List.length_append, List.length_cons, List.length_nil, Nat.zero_add] at h2
        rw [h2]; simp
  have e0 := e vs [] cs hl'
  simp only [List.nil_append, List.length_nil] at e0
  rwa [e0] at h

/-! ### Values that are put together -/
def evp (σ : Slots) : List (Nat × Operand) → Option (List (Bool × Nat × Value))
  | [] => some []
  | (i, x) :: r => match ev σ x, evp σ r with
    | some (c, v), some ps => some ((c, i, v) :: ps)
    | _, _ => none
theorem evp_map {a : Act} (hf : Fr n σ a) : ∀ {l : List (Nat × Operand)} {ps : List (Bool × Nat × Value)}, evp σ l = some ps → ps.all (·.1) = true → l.map (fun x => (x.1, a.eval x.2)) = ps.map (·.2)
  | [], ps, h, _ => by simp [evp] at h; subst h; rfl
  | (i, x) :: r, ps, h, hc => by
    simp only [evp] at h
    cases hx : ev σ x with
    | none => simp [hx] at h
    | some cv =>
      obtain ⟨c, v⟩ := cv
      cases hr : evp σ r with
      | none => simp [hx, hr] at h
      | some ps' =>
        simp [hx, hr] at h
        subst h
        simp only [List.all_cons, Bool.and_eq_true] at hc
        simp [hf.eval hx hc.1, evp_map hf hr hc.2]

def fillL (place : Nat → Option (Nat × Nat)) (cs : List Value) : List (Nat × Value) → Option (List Value)
  | [] => some cs
  | (i, v) :: r => match place i with
    | some (off, size) => bif (Nat.beq v.cells.size size && Nat.ble (off + size) cs.length) then fillL place (setAt cs off v.cells.toList) r else none
    | none => none

theorem setAt_length : ∀ (vs cs : List Value) (off : Nat), (setAt cs off vs).length = cs.length
  | [], _, _ => rfl
  | v :: r, cs, off => by simp [setAt, setAt_length r]

theorem foldl_set : ∀ (vs : List Value) (k : Nat) (cs : Array Value) (off : Nat), (vs.zipIdx k).foldl (fun cs x => cs.setIfInBounds (off + x.2) x.1) cs = (setAt cs.toList (off + k) vs).toArray
  | [], k, cs, off => by simp [setAt]
  | v :: r, k, cs, off => by
    simp only [List.zipIdx_cons, List.foldl_cons, setAt]
    rw [foldl_set r (k + 1)]
    simp [Nat.add_assoc]

theorem fill_eq (place : Nat → Option (Nat × Nat)) : ∀ (ps : List (Nat × Value)) (cs : Array Value) (out : List Value), fillL place cs.toList ps = some out → Instr.fill place cs ps = some out.toArray
  | [], cs, out, h => by simp [fillL] at h; subst h; simp [Instr.fill]
  | (i, v) :: r, cs, out, h => by
    simp only [fillL] at h
    cases hp : place i with
    | none => simp [hp] at h
    | some os =>
      obtain ⟨off, size⟩ := os
      simp only [hp] at h
      cases hb : (Nat.beq v.cells.size size && Nat.ble (off + size) cs.toList.length) with
      | false => rw [hb] at h; simp at h
      | true =>
        rw [hb, cond_true] at h
        simp only [Bool.and_eq_true] at hb
        have h1 : v.cells.size = size := Nat.eq_of_beq_eq_true hb.1
        have h2 : off + size ≤ cs.size := by simpa using Nat.le_of_ble_eq_true hb.2
        have hf := foldl_set v.cells.toList 0 cs off
        simp only [Nat.add_zero] at hf
        have ih := fill_eq place r (setAt cs.toList off v.cells.toList).toArray out (by simpa using h)
        unfold Instr.fill
        simp only [hp]
        rw [if_neg (by simp [h1]; omega)]
        rw [← ih, ← hf, ← Array.foldl_toList, Array.toList_zipIdx]

theorem setAt_mid : ∀ (vs pre mid post : List Value), vs.length = mid.length → setAt (pre ++ mid ++ post) pre.length vs = pre ++ vs ++ post
  | [], pre, mid, post, h => by
    have : mid = [] := List.eq_nil_of_length_eq_zero (by simpa using h.symm)
    subst this; rfl
  | v :: r, pre, mid, post, h => by
    cases mid with
    | nil => simp at h
    | cons u mid =>
      simp only [List.length_cons, Nat.add_right_cancel_iff] at h
      have h1 : (pre ++ u :: mid ++ post).set pre.length v = (pre ++ [v]) ++ mid ++ post := by
        simp [List.set_append]
      have h2 := setAt_mid r (pre ++ [v]) mid post h
      simp only [setAt, h1]
      simp only [List.length_append, List.length_cons, List.length_nil, Nat.zero_add] at h2
      rw [h2]; simp

/-- what a struct or an array is that is written out: its parts' cells, noughts for those that are not named -/
def segs : List (Nat × Nat) → List Value → List (Nat × Value) → Nat → Option (List Value)
  | [], zs, ps, _ => match ps with
    | [] => some zs
    | _ => none
  | (_, sz) :: pl, zs, ps, i => match ps with
    | [] => some zs
    | (j, v) :: ps' => bif Nat.beq j i then (bif Nat.beq v.cells.toList.length sz then (match segs pl (zs.drop sz) ps' (i + 1) with
          | some r => some (v.cells.toList ++ r)
          | none => none) else none)
        else (match segs pl (zs.drop sz) ((j, v) :: ps') (i + 1) with
          | some r => some (zs.take sz ++ r)
          | none => none)
def contig : List (Nat × Nat) → Nat → Bool
  | [], _ => true
  | (o, s) :: r, k => Nat.beq o k && contig r (k + s)
def sumSz : List (Nat × Nat) → Nat
  | [] => 0
  | x :: r => x.2 + sumSz r

theorem segs_fill (place : Nat → Option (Nat × Nat)) : ∀ (pl : List (Nat × Nat)) (zs : List Value) (ps : List (Nat × Value)) (i : Nat) (pre out : List Value),
    (∀ k x, pl[k]? = some x → place (i + k) = some x) → contig pl pre.length = true → zs.length = sumSz pl → segs pl zs ps i = some out → fillL place (pre ++ zs) ps = some (pre ++ out)
  | [], zs, ps, i, pre, out, _, _, _, h => by
    cases ps with
    | nil => simp [segs] at h; subst h; rfl
    | cons p ps => simp [segs] at h
  | (o, sz) :: pl, zs, ps, i, pre, out, hpl, hc, hz, h => by
    simp only [contig, Bool.and_eq_true] at hc
    obtain ⟨ho, hc⟩ := hc
    have ho : o = pre.length := Nat.eq_of_beq_eq_true ho
    simp only [sumSz] at hz
    have hpl' : ∀ k x, pl[k]? = some x → place (i + 1 + k) = some x := fun k x hk => by
      have := hpl (k + 1) x (by simpa using hk)
      rwa [show i + 1 + k = i + (k + 1) by omega]
    cases ps with
    | nil => simp [segs] at h; subst h; rfl
    | cons p ps =>
      obtain ⟨j, v⟩ := p
      simp only [segs] at h
      cases hj : Nat.beq j i with
      | true =>
        have hji : j = i := Nat.eq_of_beq_eq_true hj
        rw [hj, cond_true] at h
        cases hs : Nat.beq v.cells.toList.length sz with
        | false => rw [hs] at h; simp at h
        | true =>
          have hsz : v.cells.toList.length = sz := Nat.eq_of_beq_eq_true hs
          rw [hs, cond_true] at h
          cases hr : segs pl (zs.drop sz) ps (i + 1) with
          | none => simp [hr] at h
          | some r =>
            simp only [hr, Option.some.injEq] at h
            subst h
            have hp := hpl 0 (o, sz) rfl
            rw [Nat.add_zero] at hp
            have hmid := setAt_mid v.cells.toList pre (zs.take sz) (zs.drop sz) (by simp at hsz; simp; omega)
            rw [List.append_assoc, List.take_append_drop] at hmid
            have ih := segs_fill place pl (zs.drop sz) ps (i + 1) (pre ++ v.cells.toList) r hpl' (by rw [List.length_append, hsz]; exact hc) (by simp; omega) hr
            simp only [fillL, hji, hp]
            have hb : (Nat.beq v.cells.size sz && Nat.ble (o + sz) (pre ++ zs).length) = true := by
              simp only [Bool.and_eq_true]
              refine ⟨by simpa using hs, Nat.ble_eq_true_of_le (by rw [List.length_append]; omega)⟩
            rw [hb, cond_true, ho, hmid, ih, List.append_assoc]
      | false =>
        rw [hj, cond_false] at h
        cases hr : segs pl (zs.drop sz) ((j, v) :: ps) (i + 1) with
        | none => simp [hr] at h
        | some r =>
          simp only [hr, Option.some.injEq] at h
          subst h
          have ih := segs_fill place pl (zs.drop sz) ((j, v) :: ps) (i + 1) (pre ++ zs.take sz) r hpl' (by rw [List.length_append, List.length_take, Nat.min_eq_left (by omega)]; exact hc) (by simp; omega) hr
          rw [List.append_assoc, List.take_append_drop] at ih
          rw [ih, List.append_assoc]

def placesOk (P : Program) (t : TypeId) (pl : List (Nat × Nat)) : Prop := ∃ fs, P.underlying t = some (.struct fs) ∧ fs.toList.map (fun f => (f.offset, (P.info? f.type).map (·.size))) = pl.map fun x => (x.1, some x.2)

theorem mapM_places : ∀ (fs : List Field) (pl : List (Nat × Nat)) (w : World), fs.map (fun f => (f.offset, (P.info? f.type).map (·.size))) = pl.map (fun x => (x.1, some x.2)) →
    (fs.mapM fun f => (do pure (f.offset, ← sizeOf f.type) : Sem (Nat × Nat))).run P w = .ok pl w
  | [], pl, w, h => by cases pl <;> simp_all
  | f :: fs, pl, w, h => by
    cases pl with
    | nil => simp at h
    | cons x pl =>
      simp only [List.map_cons, List.cons.injEq, Prod.mk.injEq] at h
      obtain ⟨⟨h1, h2⟩, h3⟩ := h
      have hs : Sz P f.type x.2 := h2
      have ih := mapM_places fs pl w h3
      simp only [List.mapM_cons, Sem.run_bind, run_sizeOf hs, Result.andThen_ok, Sem.run_pure, h1, ih]

theorem QT_build {ps : Array (Nat × Operand)} {cps : List (Bool × Nat × Value)} {zs : Value} {pl : List (Nat × Nat)} {out : List Value} (hg : gdc ops σ o = some g) (hop : o.op = .build t ps) (hz : ZeroOk P t zs) (hpl : placesOk P t pl)
    (he : evp σ ps.toList = some cps) (hct : (contig pl 0 && Nat.beq zs.cells.toList.length (sumSz pl)) = true) (hseg : segs pl zs.cells.toList (cps.map (·.2)) 0 = some out) (hc : g = true → cps.all (·.1) = true := by first | exact fun _ => rfl | (intro h; first | grind | simp_all)) : QT P n ops o σ A g (.agg out.toArray) :=
  QT.mk hg fun a w hf _ h => by
    obtain ⟨fs, hu, hfs⟩ := hpl
    have h1 : (ps.map fun (i, x) => (i, a.eval x)).toList = cps.map (·.2) := by
      rw [Array.toList_map]; exact evp_map hf he (hc h)
    simp only [Bool.and_eq_true] at hct
    have hfill := segs_fill (fun i => pl[i]?) pl zs.cells.toList (cps.map (·.2)) 0 [] out (fun k x hk => by simpa using hk) hct.1 (Nat.eq_of_beq_eq_true hct.2) hseg
    have h2 := fill_eq (fun i => pl[i]?) _ zs.cells out hfill
    have h3 := mapM_places (P := P) fs.toList pl w hfs
    have h4 : (fs.mapM fun f => (do pure (f.offset, ← sizeOf f.type) : Sem (Nat × Nat))).run P w = .ok pl.toArray w := by
      rw [Array.mapM_eq_mapM_toList]
      rw [Sem.run_map, h3, Result.andThen_ok]
    simp only [execOp, hop, Instr.build, Sem.run_bind, run_zeroValue hz, Result.andThen_ok, run_underlying hu, h4, h1]
    have e : (fun x : Nat => pl.toArray[x]?) = (fun x : Nat => pl[x]?) := by funext x; simp
    rw [e, h2]
    rfl

/-- a slice written out: all its elements, in order -/
theorem ET_buildSlice {w0 : Base} {η : Heap} {e m len : Nat} {zs : Value} {ps : Array (Nat × Operand)} {cps : List (Bool × Nat × Value)} {out : List Value} (hop : o.op = .buildSlice t len ps) (hu : P.underlying t = some (.slice e)) (hm : Sz P e m) (hz : ZeroOk P e zs)
    (he : evp σ ps.toList = some cps) (hl : Nat.ble (len * m) 16777216 = true) (hseg : segs ((List.range len).map fun i => (i * m, m)) ((List.range (len * m)).map (zs.cells.toList[· % zs.cells.toList.length]!)) (cps.map (·.2)) 0 = some out)
    (hc : cps.all (·.1) = true := by first | exact rfl | simp_all) :
    ET P n o σ (St w0 η) fun r A' => ∃ b, r = .slice (some ⟨b, 0, none⟩) len len ∧ A' = St w0 ((b, e, out) :: η) := by
  intro a w hf hA K Q hK
  unfold Oper.wp
  have h1 : (ps.map fun (i, x) => (i, a.eval x)).toList = cps.map (·.2) := by
    rw [Array.toList_map]; exact evp_map hf he hc
  have hl' := Nat.le_of_ble_eq_true hl
  have hct : ∀ (l k : Nat), contig ((List.range' k l).map fun i => (i * m, m)) (k * m) = true ∧ sumSz ((List.range' k l).map fun i => (i * m, m)) = l * m := by
    intro l
    induction l with
    | zero => intro k; simp [contig, sumSz]
    | succ l ih =>
      intro k
      have := ih (k + 1)
      simp only [List.range'_succ, List.map_cons, contig, sumSz, Nat.add_mul, Nat.one_mul] at this ⊢
      exact ⟨by simp [this.1], by omega⟩
  have hfill : fillL (fun i => some (i * m, m)) ((List.range (len * m)).map (zs.cells.toList[· % zs.cells.toList.length]!)) (cps.map (·.2)) = some out := by
    refine segs_fill (fun i => some (i * m, m)) _ _ _ 0 [] out (fun k x hk => ?_) ?_ ?_ hseg
    · rw [List.getElem?_map] at hk
      cases hr : (List.range len)[k]? with
      | none => simp [hr] at hk
      | some y =>
        obtain ⟨hlt, hy⟩ := List.getElem?_eq_some_iff.1 hr
        simp only [List.getElem_range] at hy
        simp [hr] at hk
        simp [← hk, hy]
    · have := (hct len 0).1
      rw [List.range_eq_range']; simpa using this
    · have := (hct len 0).2
      rw [← List.range_eq_range'] at this
      rw [this]; simp
  have hrun : (execOp a.eval o).run P w = .ok (.value (.slice (some ⟨w.heap.size, 0, none⟩) len len)) (w.alloc (.cells out.toArray e)) := by
    have hgt : ¬ (len * m > 2 ^ 24) := by
      have : (2 : Nat) ^ 24 = 16777216 := by decide
      omega
    by_cases h0 : len * m = 0
    · have h2 : Instr.fill (fun i => some (i * m, m)) ((Array.range (len * m)).map fun x => (#[] : Array Value)[x % (#[] : Array Value).size]!) (cps.map (·.2)) = some out.toArray := by
        refine fill_eq _ _ _ _ ?_
        rw [h0] at hfill ⊢
        simpa using hfill
      simp only [execOp, hop, Instr.buildSlice, Sem.run_bind, run_underlying hu, Result.andThen_ok, run_sizeOf hm, if_neg hgt, Sem.run_pure, if_pos h0, h1, h2, newRow, run_newObj]
      rfl
    · have h2 : Instr.fill (fun i => some (i * m, m)) ((Array.range (len * m)).map fun x => zs.cells[x % zs.cells.size]!) (cps.map (·.2)) = some out.toArray := by
        refine fill_eq _ _ _ _ ?_
        have : ((Array.range (len * m)).map fun x => zs.cells[x % zs.cells.size]!).toList = (List.range (len * m)).map (zs.cells.toList[· % zs.cells.toList.length]!) := by
          simp only [Array.toList_map, Array.toList_range]
          apply List.map_congr_left
          intro x _
          simp only [Array.length_toList]
          rw [getElem!_def, getElem!_def]
          simp
        rw [this]; exact hfill
      simp only [execOp, hop, Instr.buildSlice, Sem.run_bind, run_underlying hu, Result.andThen_ok, run_sizeOf hm, if_neg hgt, Sem.run_pure, if_neg h0, run_zeroValue hz, h1, h2, newRow, run_newObj]
      rfl
  rw [hrun, Oper.upon_value]
  exact hK _ _ _ ⟨_, rfl, rfl⟩ (hA.alloc e out.toArray)
end
end Go.Gx
