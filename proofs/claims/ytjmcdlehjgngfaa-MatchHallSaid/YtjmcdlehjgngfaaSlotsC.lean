/- What match.Slots computes; free; an append that must grow. -/
import Derived.Test.YtjmcdlehjgngfaaFits
namespace Go.Proofs.Ytjmcdlehjgngfaa
open Go.RowKit Go.Proofs.YtjmcdlehjgngfaaW.PrintWords Go.Proofs.YtjmcdlehjgngfaaW.PrintLast Go.Proofs.YtjmcdlehjgngfaaW.PrintMore
set_option linter.unusedVariables false
set_option linter.unusedSimpArgs false

/-- Is a slot among some? -/
def memC : List Nat → Nat → Bool
  | [], _ => false
  | s :: r, k => Nat.beq s k || memC r k

theorem free_l (fs : List Nat) (k : Nat) (d : Nat) : ∀ (g j : Nat), j + d = fs.length → d < g → fs.length ≤ 4 → PMatchSlots.match_free.l0 g k (ints fs) (fs.length : Int) j = some (!memC (fs.drop j) k) := by
  induction d with
  | zero =>
    intro g j hj hg hl
    obtain ⟨g, rfl⟩ : ∃ m, g = m + 1 := ⟨g - 1, by omega⟩
    unfold PMatchSlots.match_free.l0
    rw [if_neg (by omega), show j = fs.length by omega, List.drop_length]
    rfl
  | succ d ih =>
    intro g j hj hg hl
    obtain ⟨g, rfl⟩ : ∃ m, g = m + 1 := ⟨g - 1, by omega⟩
    unfold PMatchSlots.match_free.l0
    have hjl : j < fs.length := by omega
    have e1 : (j : Int) + 1 = ((j + 1 : Nat) : Int) := by omega
    have hlen : ((ints fs).length : Int) = fs.length := by rw [ints_length]
    rw [if_pos (by omega), if_pos (by omega), hlen, if_pos (by omega), rd_ints fs j hjl, e1, List.drop_eq_getElem_cons hjl]
    have hw : wrap64 ((j + 1 : Nat) : Int) = ((j + 1 : Nat) : Int) := by unfold wrap64; omega
    rw [hw, ih g (j + 1) (by omega) (by omega) hl]
    show _ = some (!(Nat.beq fs[j] k || memC (fs.drop (j + 1)) k))
    by_cases he : fs[j] = k
    · rw [if_pos (by rw [he]), he, Nat.beq_refl]; rfl
    · have hb : Nat.beq fs[j] k = false := by
        cases hb : Nat.beq fs[j] k with
        | false => rfl
        | true => exact absurd (Nat.eq_of_beq_eq_true hb) he
      rw [if_neg (by omega), hb, Bool.false_or]
theorem free_ok (fs : List Nat) (k : Nat) (hl : fs.length ≤ 4) : PMatchSlots.match_free.f 6 (ints fs) k = some (!memC fs k) := by
  have h := free_l fs k fs.length 6 0 (by omega) (by omega) hl
  unfold PMatchSlots.match_free.f
  rw [ints_length]
  exact h

theorem free_any (fs : List Nat) (k i c : Nat) (A : Option Addr) (w : World) (hl : fs.length ≤ 4) (hi : i = fs.length) (hc : i ≤ c) (hr : ReadsInt w .i64 A i (ints fs)) :
    Calls Try.prog 12 #[.slice A i c, .int .i64 k] w fun e w' => e = .returned (.bool (!memC fs k)) ∧ Below w.heap.size w w' := by
  have e : i = (ints fs).length := by rw [ints_length]; exact hi
  rw [e] at hr hc ⊢
  exact (PMatchSlots.match_free.calls 6 A c (ints fs) k _ w (Kd.C_of_reads (enc := Value.int .i64) (d := (0 : Int)) (h1 := fun _ => rfl) hr) hc (free_ok fs k hl)).mono fun _ _ h => ⟨h.1, h.2.below⟩

/-- A row of the call's own, as a slice. -/
theorem own_shape {w : World} {base n : Nat} {v : Value} {xs : List Int} (h : w.ownsRow base 3 1 v n (nums .i64 xs)) :
    ∃ A c, v = .slice A n c ∧ n ≤ c ∧ ReadsInt w .i64 A n xs ∧ (A = none → n = 0 ∧ c = 0) := by
  obtain ⟨A, c, hv, hr⟩ := own_reads h
  rcases h.2 with ⟨hn, h0⟩ | ⟨g, cap, cur, hs, -, -, hc, -⟩
  · rw [hv] at hn
    injection hn with h1 h2 h3
    subst h1 h2 h3
    exact ⟨none, 0, hv, Nat.le_refl _, hr, fun _ => ⟨rfl, rfl⟩⟩
  · rw [hv] at hs
    injection hs with h1 h2 h3
    subst h1 h3
    exact ⟨_, c, hv, hc, hr, fun hh => by cases hh⟩

theorem reads_own {w : World} {base n c : Nat} {A : Option Addr} {xs : List Int} (h : w.ownsRow base 3 1 (.slice A n c) n (nums .i64 xs)) : ReadsInt w .i64 A n xs := by
  obtain ⟨A', c', hv, hr⟩ := own_reads h
  injection hv with h1 h2 h3
  subst h1
  exact hr

theorem nums_snoc (fs : List Nat) (k : Nat) : nums .i64 (ints fs) ++ [Value.int .i64 k] = nums .i64 (ints (fs ++ [k])) := by simp [nums, ints]
theorem nums_len (fs : List Nat) (i : Nat) (h : i = fs.length) : (nums .i64 (ints fs)).length = i * 1 := by simp [nums, ints, h]
theorem nums_cells {w : World} {A : Option Addr} {i : Nat} {xs : List Int} (h : ReadsInt w .i64 A i xs) : ∀ b, A = some b → ∀ j u, (nums .i64 xs)[j]? = some u → w.cell? (b.add j) = some u := by
  intro b hb j u hu
  have hj : j < xs.length := by
    have := (List.getElem?_eq_some_iff.1 hu).1
    simpa [nums] using this
  obtain ⟨ad, e, hc⟩ := h.2.2 (by have := h.1; omega)
  rw [hb] at e
  injection e with e
  subst e
  rw [hc j (by have := h.1; omega)]
  rw [← hu]
  simp [nums, hj]
theorem one_cell_new (w : World) (v : Value) (t : TypeId) : ∀ j u, [v][j]? = some u → (w.alloc (.cells #[v] t (0, 0))).cell? ((⟨w.heap.size, 0, none⟩ : Addr).add j) = some u := by
  intro j u hu
  cases j with
  | zero =>
    simp only [List.getElem?_cons_zero, Option.some.injEq] at hu
    subst hu
    rw [add_plain, blk_cell (blk_new _ _)]
    rfl
  | succ j => simp at hu

theorem But1.grown {b : Nat} {w w' : World} (h : But1 b w w') : w.grownBy w' (some b) := ⟨h.os, h.tape, h.output, h.size, fun k hk hne => h.block k hk (fun e => hne (by rw [e]))⟩
theorem own_far {w w' : World} {base n i c b : Nat} {A : Option Addr} {xs : List Value} (h : w.ownsRow base 3 1 (.slice A i c) n xs) (hg : w.grownBy w' (some b)) (hb : ∀ x, A = some x → x.block < b) : w'.ownsRow base 3 1 (.slice A i c) n xs := by
  refine h.kept hg ?_
  cases A with
  | none => exact .inl rfl
  | some x => exact .inr (fun hh => by
      have h1 := hb x rfl
      have h2 : some x.block = some b := hh
      injection h2 with h2
      omega)
theorem own_apart {w w' : World} {base n i c : Nat} {A : Option Addr} {xs : List Value} (h : w.ownsRow base 3 1 (.slice A i c) n xs) (hg : w.grownBy w' none) : w'.ownsRow base 3 1 (.slice A i c) n xs := by
  refine h.kept hg ?_
  cases A with
  | none => exact .inl rfl
  | some x => exact .inr (fun hh => by cases hh)
theorem own_under {w : World} {base n i c : Nat} {A : Option Addr} {xs : List Value} (h : w.ownsRow base 3 1 (.slice A i c) n xs) : ∀ x, A = some x → x.block < w.heap.size := fun x hx => own_lt h x.block (by rw [hx]; rfl)

/-- An append that must grow, guarded or not: the new row is the call's own. -/
theorem wpList_grows_g {P : Program} (w : World) {ops : Array Oper} {rest : List Oper} {o : Oper} {a : Act} {Q : Exit → Act → World → Prop}
    (hw : Region.wanted o (yielded ops a.tmps) = true) (s x : Operand) (t : TypeId) (hop : o.op = Op.call { callee := Callee.builtin Builtin.append, args := #[s, x], argTypes := #[t, t] })
    (e : TypeId) (i : TypeInfo) (z : Value) (size bytes : Nat) (h1 : P.underlying t = some (.slice e)) (h2 : P.info? e = some i) (h3 : i.zero = some z) (h4 : i.size = size) (h5 : i.bytes = bytes) (h6 : z.cells.size = size) (h7 : 0 < size)
    (ao : Option Addr) (n cap : Nat) (olds : List Value) (hs : a.eval s = .slice ao n cap) (hnone : ao = none → n = 0 ∧ cap = 0) (hlo : olds.length = n * size) (holds : ∀ b, ao = some b → ∀ j u, olds[j]? = some u → w.cell? (b.add j) = some u)
    (ad : Addr) (m c : Nat) (news : List Value) (hx : a.eval x = .slice (some ad) m c) (hn : news.length = m * size) (hc : ∀ j u, news[j]? = some u → w.cell? (ad.add j) = some u) (h1c : ∀ u ∈ news, u.oneCell' = true)
    (hfull : cap < n + m) (b1 : n + m ≤ maxLen) (b2 : (n + m) * bytes ≤ 140737488355328)
    (hK : ∀ v' w', w'.ownsRow w.heap.size e size v' (n + m) (olds ++ news) → w.grownBy w' none → wpList P ops Q rest (a.put o.dst v') w') :
    wpList P ops Q (o :: rest) a w := by
  refine wpList_step fun K hK' => ?_
  rw [if_pos hw]
  cases ao with
  | some b =>
    obtain ⟨v', w', hrun, r1, r2⟩ := run_append_arg_grows (P := P) w t o.type e i z size bytes h1 h2 h3 h4 h5 h6 h7 b n cap olds hlo (holds b rfl) ad m c news hn hc hfull b1 b2
    unfold Oper.wp
    simp [execOp, hop, resolve, invoke, builtin, hs, hx, hrun, Result.andThen]
    exact hK' _ _ (hK v' w' r1 r2)
  | none =>
    obtain ⟨rfl, rfl⟩ := hnone rfl
    obtain rfl : olds = [] := List.eq_nil_of_length_eq_zero (by simpa using hlo)
    obtain ⟨v', w', hrun, r1, r2, _⟩ := run_append_own (P := P) w w.heap.size t o.type e i z size bytes h1 h2 h3 h4 h5 h6 h7 (.slice none 0 0) 0 [] (World.ownsRow_nil w _ e size) ad m c news hn hc h1c b1 b2 (Nat.le_refl _)
    unfold Oper.wp
    simp [execOp, hop, resolve, invoke, builtin, hs, hx, hrun, Result.andThen]
    exact hK' _ _ (hK v' w' r1 r2)

/-- The least slot from k on that mask i may take, the ones before having theirs. -/
def innerC (mc n i : Nat) (fs : List Nat) : Nat → Nat → Option (List Nat)
  | 0, _ => none
  | g + 1, k =>
    bif Nat.blt k 4 then
      bif has mc i k && !memC fs k then
        match allC mc (i + 1) n 10 (i + 1) (begC (fs ++ [k]) 0 0) with
        | none => none
        | some true => some (fs ++ [k])
        | some false => innerC mc n i fs g (k + 1)
      else innerC mc n i fs g (k + 1)
    else none
def slotsC (mc n : Nat) : Nat → Nat → List Nat → Option (List Nat)
  | 0, _, _ => none
  | g + 1, i, fs => bif Nat.blt i n then (innerC mc n i fs 5 0).bind fun r => slotsC mc n g (i + 1) r else some fs

def SlotsPost (base : Nat) (fs : List Nat) (w0 : World) (e : Ending) (w' : World) : Prop :=
  ∃ v, e = .returned (.tuple #[v, .bool true]) ∧ w'.ownsRow base 3 1 v fs.length (nums .i64 (ints fs)) ∧ Below base w0 w'

end Go.Proofs.Ytjmcdlehjgngfaa
