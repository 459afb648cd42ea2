/-
  PROVED: a row is a path of the instruction's tree; a block's row that repeats is that of its one step, and ReqIdle 5 if it goes on.
-/
import Derived.Test.YtnelghpendfdmaaGreatDoorKPm
import Derived.Test.YtnelghpendfdmaaGreatDoorKLd
namespace Go.Proofs.YtnelghpendfdmaaGreatDoor.KRow
open Go Go.RowKit Go.Proofs.YtnelghpendfdmaaGreatDoorW.PrintWords Go.Proofs.YtnelghpendfdmaaGreatDoor.HFun
set_option linter.unusedVariables false
/-! rows as paths of a tree -/
def Tr.path {α : Type} (ans : Nat → Int) : Tr α → List S56 → List Int → List S56 × List Int × α × Rw
  | .ret v ρ, out, got => (out, got, v, ρ)
  | .ask k a v t f, out, got => (f (ans got.length)).path ans (out ++ [⟨k, a, v, t⟩]) (got ++ [ans got.length])
theorem Tr.path_bind {α β : Type} (ans : Nat → Int) (t : Tr α) (F : α → Rw → Tr β) (out : List S56) (got : List Int) :
    (t.bind F).path ans out got = (F (t.path ans out got).2.2.1 (t.path ans out got).2.2.2).path ans (t.path ans out got).1 (t.path ans out got).2.1 := by
  induction t generalizing out got with
  | ret v ρ => rfl
  | ask k a v t f ih => simp only [Tr.bind, Tr.path]; exact ih _ _ _
def Tr.to : Tr Unit → To
  | .ret _ ρ => ⟨0, 0, 0, 0, ρ.toRg, true, 0⟩
  | .ask k a v t _ => ⟨k, a, v, t, zeroRg, false, 0⟩
theorem told_dn {gl : List Int} {t t' : Tr Unit} (h : t.dn gl = some t') : toldOf gl (t.run gl 0) = t'.to := by
  have h1 := Tr.run_dn [] gl h
  rw [List.nil_append, List.length_nil] at h1
  rw [h1]
  cases t' with
  | ret v ρ => simp [Tr.res, toldOf, Tr.to]
  | ask k a v t f => rfl
def ansOf (l : List Int) (n : Nat) : Int := if n < l.length then rd l (n : Int) else 0
theorem path_len {α : Type} (ans : Nat → Int) (t : Tr α) (out : List S56) (got : List Int) : out.length ≤ (t.path ans out got).1.length := by
  induction t generalizing out got with
  | ret v ρ => exact Nat.le_refl _
  | ask k a v t f ih =>
    have := ih (ans got.length) (out ++ [⟨k, a, v, t⟩]) (got ++ [ans got.length])
    simp only [Tr.path]
    rw [List.length_append, List.length_singleton] at this
    omega
theorem rowL_path {F : List Int → To} {l : List Int} {T : Tr Unit} (hF : ∀ got T', T.dn got = some T' → F got = T'.to) : ∀ (n : Nat) (T' : Tr Unit) (out : List S56) (got : List Int), T.dn got = some T' → (T'.path (ansOf l) out got).1.length ≤ out.length + n →
    rowL F l (n + 1) out got = some ((T'.path (ansOf l) out got).1, (T'.path (ansOf l) out got).2.1, (T'.path (ansOf l) out got).2.2.2.toRg)
  | n, .ret v ρ, out, got, hd, _ => by
    unfold rowL
    rw [hF got _ hd]
    rfl
  | 0, .ask k a v t f, out, got, hd, hl => by
    have := path_len (ansOf l) (f (ansOf l got.length)) (out ++ [⟨k, a, v, t⟩]) (got ++ [ansOf l got.length])
    simp only [Tr.path] at hl
    rw [List.length_append, List.length_singleton] at this
    omega
  | n + 1, .ask k a v t f, out, got, hd, hl => by
    unfold rowL
    rw [hF got _ hd]
    refine rowL_path hF n (f (ansOf l got.length)) (out ++ [⟨k, a, v, t⟩]) (got ++ [ansOf l got.length]) (Tr.dn_snoc hd _) ?_
    simp only [Tr.path] at hl
    rw [List.length_append, List.length_singleton]
    omega
def rwOf (ρ : Rg) : Rw := { toRg := ρ, peek := 0, x := 0, disp := false, adr := 0 }
theorem row_path {ρ : Rg} {l : List Int} (hle : (((rwOf ρ).instr false).path (ansOf l) [] []).1.length ≤ 10) :
    rowL (nx ρ 0) l 11 [] [] = some ((((rwOf ρ).instr false).path (ansOf l) [] []).1, (((rwOf ρ).instr false).path (ansOf l) [] []).2.1, (((rwOf ρ).instr false).path (ansOf l) [] []).2.2.2.toRg) := by
  refine rowL_path (T := (rwOf ρ).instr false) (fun got T' h => ?_) 10 _ [] [] (by cases ((rwOf ρ).instr false) <;> rfl) (by simpa using hle)
  unfold nx
  have hone : ({ toRg := ρ, peek := 0, x := 0, disp := false, adr := 0 } : Rw).instr (((got.length : Nat) : Int) == 1) = (rwOf ρ).instr false := by
    unfold rwOf
    cases (((got.length : Nat) : Int) == 1)
    · rfl
    · simp [Rw.instr, Rw.fetch, Rw.req, Tr.bind, Rw.fetched]
  rw [hone]
  exact told_dn h
/-! a block's operation as one tree whose end may go on -/
def Rw.bl0 (ρ : Rw) (s : Int) : Tr Bool := (ρ.read ρ.hl0).bind fun v ρ1 => (ρ1.write ρ.de0 v).bind fun _ ρ1 => (ρ1.idle 2).bind fun _ ρ1 => .ret (dec16 ρ.bc0 != 0) (ρ1.blockTail0 ρ.hl0 ρ.de0 ρ.bc0 s v)
def Rw.bl1 (ρ : Rw) (s : Int) : Tr Bool := (ρ.read ρ.hl0).bind fun v ρ1 => (ρ1.idle 5).bind fun _ ρ1 => .ret ((dec16 ρ.bc0 != 0) && (Go.bits .and .u8 (vWFind ρ1.a v (dec16 ρ.bc0) ρ1.f) 64 == 0)) (ρ1.blockTail1 ρ.hl0 ρ.bc0 s v)
def Rw.bl2 (ρ : Rw) (s s8 : Int) : Tr Bool := (ρ.idle 1).bind fun _ ρ1 => (ρ1.inp ρ.bc0).bind fun v ρ1 => (({ ρ1 with wz := add16 ρ.bc0 s, b := decB ρ1.b } : Rw).write ρ.hl0 v).bind fun _ ρ1 =>
    .ret (ρ1.b != 0) { ρ1 with h := add16 ρ.hl0 s / 256 % 256, l := add16 ρ.hl0 s % 256, f := vWPort v ρ1.b ((ρ1.c + s8) % 256) }
def Rw.bl3 (ρ : Rw) (s : Int) : Tr Bool := (ρ.idle 1).bind fun _ ρ1 => (ρ1.read ρ.hl0).bind fun v ρ1 =>
    (({ ρ1 with h := add16 ρ.hl0 s / 256 % 256, l := add16 ρ.hl0 s % 256, b := decB ρ1.b } : Rw).out (wPair (decB ρ1.b) ρ1.c) v).bind fun _ ρ2 =>
    .ret (ρ2.b != 0) { ρ2 with wz := add16 (wPair (decB ρ1.b) ρ1.c) s, f := vWPort v ρ2.b ρ2.l }
theorem blk0 (ρ : Rw) (s : Int) (rep : Bool) : ρ.block0 s rep = (ρ.bl0 s).bind fun c ρ => ρ.again (rep && c) := by
  unfold Rw.block0 Rw.bl0
  simp only [bind_assoc, bind_unit, Tr.bind]
theorem blk1 (ρ : Rw) (s : Int) (rep : Bool) : ρ.block1 s rep = (ρ.bl1 s).bind fun c ρ => ρ.again (rep && c) := by
  unfold Rw.block1 Rw.bl1
  simp only [bind_assoc, bind_unit, Tr.bind]
theorem blk2 (ρ : Rw) (s s8 : Int) (rep : Bool) : ρ.block2 s s8 rep = (ρ.bl2 s s8).bind fun c ρ => ρ.again (rep && c) := by
  unfold Rw.block2 Rw.bl2
  simp only [bind_assoc, bind_unit, Tr.bind]
theorem blk3 (ρ : Rw) (s : Int) (rep : Bool) : ρ.block3 s rep = (ρ.bl3 s).bind fun c ρ => ρ.again (rep && c) := by
  unfold Rw.block3 Rw.bl3
  simp only [bind_assoc, bind_unit, Tr.bind]
def Rw.bl (ρ : Rw) (k : Nat) : Tr Bool :=
  match k with
  | 0 => ρ.bl0 1 | 1 => ρ.bl0 65535 | 2 => ρ.bl1 1 | 3 => ρ.bl1 65535 | 4 => ρ.bl2 1 1 | 5 => ρ.bl2 65535 255 | 6 => ρ.bl3 1 | _ => ρ.bl3 65535
def opOf (k : Nat) : Int := 160 + 8 * (k % 2) + k / 2
theorem block_op (k : Nat) (hk : k < 8) (ρ : Rw) : ρ.setMore (opOf k) = (ρ.bl k).bind (fun _ ρ => .ret () ρ) ∧ ρ.setMore (opOf k + 16) = (ρ.bl k).bind (fun c ρ => ρ.again c) := by
  have h1 : ∀ k : Nat, k < 8 → (px (opOf k) = 2 ∧ 4 ≤ py (opOf k) ∧ pz (opOf k) ≤ 3) ∧ (px (opOf k + 16) = 2 ∧ 4 ≤ py (opOf k + 16) ∧ pz (opOf k + 16) ≤ 3) ∧ py (opOf k) = 4 + (k % 2 : Nat) ∧ py (opOf k + 16) = 6 + (k % 2 : Nat) ∧ pz (opOf k) = (k / 2 : Nat) ∧ pz (opOf k + 16) = (k / 2 : Nat) := by decide +kernel
  obtain ⟨a1, a2, a3, a4, a5, a6⟩ := h1 k hk
  unfold Rw.setMore
  rw [if_pos a1, if_pos a2, a3, a4, a5, a6, bind_unit, bind_unit]
  unfold Rw.block Rw.bl
  match k, hk with
  | 0, _ =>
    constructor
    · rw [if_neg (by decide +kernel), if_pos (by decide +kernel), show (decide ((6 : Int) ≤ 4 + ((0 % 2 : Nat) : Int))) = false by decide +kernel, blk0 ρ _ _]
      simp only [Bool.false_and, Rw.again, Bool.false_eq_true, if_false]
    · rw [if_neg (by decide +kernel), if_pos (by decide +kernel), show (decide ((6 : Int) ≤ 6 + ((0 % 2 : Nat) : Int))) = true by decide +kernel, blk0 ρ _ _]
      simp only [Bool.true_and]
  | 1, _ =>
    constructor
    · rw [if_pos (by decide +kernel), if_pos (by decide +kernel), show (decide ((6 : Int) ≤ 4 + ((1 % 2 : Nat) : Int))) = false by decide +kernel, blk0 ρ _ _]
      simp only [Bool.false_and, Rw.again, Bool.false_eq_true, if_false]
    · rw [if_pos (by decide +kernel), if_pos (by decide +kernel), show (decide ((6 : Int) ≤ 6 + ((1 % 2 : Nat) : Int))) = true by decide +kernel, blk0 ρ _ _]
      simp only [Bool.true_and]
  | 2, _ =>
    constructor
    · rw [if_neg (by decide +kernel), if_neg (by decide +kernel), if_pos (by decide +kernel), show (decide ((6 : Int) ≤ 4 + ((2 % 2 : Nat) : Int))) = false by decide +kernel, blk1 ρ _ _]
      simp only [Bool.false_and, Rw.again, Bool.false_eq_true, if_false]
    · rw [if_neg (by decide +kernel), if_neg (by decide +kernel), if_pos (by decide +kernel), show (decide ((6 : Int) ≤ 6 + ((2 % 2 : Nat) : Int))) = true by decide +kernel, blk1 ρ _ _]
      simp only [Bool.true_and]
  | 3, _ =>
    constructor
    · rw [if_pos (by decide +kernel), if_neg (by decide +kernel), if_pos (by decide +kernel), show (decide ((6 : Int) ≤ 4 + ((3 % 2 : Nat) : Int))) = false by decide +kernel, blk1 ρ _ _]
      simp only [Bool.false_and, Rw.again, Bool.false_eq_true, if_false]
    · rw [if_pos (by decide +kernel), if_neg (by decide +kernel), if_pos (by decide +kernel), show (decide ((6 : Int) ≤ 6 + ((3 % 2 : Nat) : Int))) = true by decide +kernel, blk1 ρ _ _]
      simp only [Bool.true_and]
  | 4, _ =>
    constructor
    · rw [if_neg (by decide +kernel), if_neg (by decide +kernel), if_neg (by decide +kernel), if_pos (by decide +kernel), show (decide ((6 : Int) ≤ 4 + ((4 % 2 : Nat) : Int))) = false by decide +kernel, blk2 ρ _ _ _]
      simp only [Bool.false_and, Rw.again, Bool.false_eq_true, if_false]
    · rw [if_neg (by decide +kernel), if_neg (by decide +kernel), if_neg (by decide +kernel), if_pos (by decide +kernel), show (decide ((6 : Int) ≤ 6 + ((4 % 2 : Nat) : Int))) = true by decide +kernel, blk2 ρ _ _ _]
      simp only [Bool.true_and]
  | 5, _ =>
    constructor
    · rw [if_pos (by decide +kernel), if_neg (by decide +kernel), if_neg (by decide +kernel), if_pos (by decide +kernel), show (decide ((6 : Int) ≤ 4 + ((5 % 2 : Nat) : Int))) = false by decide +kernel, blk2 ρ _ _ _]
      simp only [Bool.false_and, Rw.again, Bool.false_eq_true, if_false]
    · rw [if_pos (by decide +kernel), if_neg (by decide +kernel), if_neg (by decide +kernel), if_pos (by decide +kernel), show (decide ((6 : Int) ≤ 6 + ((5 % 2 : Nat) : Int))) = true by decide +kernel, blk2 ρ _ _ _]
      simp only [Bool.true_and]
  | 6, _ =>
    constructor
    · rw [if_neg (by decide +kernel), if_neg (by decide +kernel), if_neg (by decide +kernel), if_neg (by decide +kernel), show (decide ((6 : Int) ≤ 4 + ((6 % 2 : Nat) : Int))) = false by decide +kernel, blk3 ρ _ _]
      simp only [Bool.false_and, Rw.again, Bool.false_eq_true, if_false]
    · rw [if_neg (by decide +kernel), if_neg (by decide +kernel), if_neg (by decide +kernel), if_neg (by decide +kernel), show (decide ((6 : Int) ≤ 6 + ((6 % 2 : Nat) : Int))) = true by decide +kernel, blk3 ρ _ _]
      simp only [Bool.true_and]
  | 7, _ =>
    constructor
    · rw [if_pos (by decide +kernel), if_neg (by decide +kernel), if_neg (by decide +kernel), if_neg (by decide +kernel), show (decide ((6 : Int) ≤ 4 + ((7 % 2 : Nat) : Int))) = false by decide +kernel, blk3 ρ _ _]
      simp only [Bool.false_and, Rw.again, Bool.false_eq_true, if_false]
    · rw [if_pos (by decide +kernel), if_neg (by decide +kernel), if_neg (by decide +kernel), if_neg (by decide +kernel), show (decide ((6 : Int) ≤ 6 + ((7 % 2 : Nat) : Int))) = true by decide +kernel, blk3 ρ _ _]
      simp only [Bool.true_and]
theorem path_congr {α : Type} (t : Tr α) : ∀ {ans ans' : Nat → Int} (out : List S56) (got got' : List Int), got.length = got'.length → (∀ n, got.length ≤ n → ans n = ans' n) →
    (t.path ans out got).1 = (t.path ans' out got').1 ∧ (t.path ans out got).2.2 = (t.path ans' out got').2.2 ∧ (t.path ans out got).2.1.length = (t.path ans' out got').2.1.length ∧ got.length ≤ (t.path ans out got).2.1.length := by
  induction t with
  | ret v ρ => intro ans ans' out got got' hl h; exact ⟨rfl, rfl, hl, Nat.le_refl _⟩
  | ask k a v t f ih =>
    intro ans ans' out got got' hl h
    have e : ans got.length = ans' got'.length := by rw [h _ (Nat.le_refl _), hl]
    simp only [Tr.path]
    rw [← e]
    have := ih (ans got.length) (ans := ans) (ans' := ans') (out ++ [⟨k, a, v, t⟩]) (got ++ [ans got.length]) (got' ++ [ans got.length]) (by simp [hl]) (fun n hn => h n (by simp at hn; omega))
    refine ⟨this.1, this.2.1, this.2.2.1, ?_⟩
    have h4 := this.2.2.2
    simp at h4
    omega
def sigma (ρ : Rg) : Rw := (({ rwOf ρ with late := false } : Rw).fetched).fetched
theorem instr_ed (ρ : Rg) (hh : ρ.halt = false) (ans : Nat → Int) (h0 : ans 0 = 237) :
    ((rwOf ρ).instr false).path ans [] [] = ((sigma ρ).setMore (wrap64 (ans 1))).path ans [⟨1, ρ.pc, 0, 4⟩, ⟨1, inc16 ρ.pc, 0, 4⟩] [237, ans 1] := by
  have hh' : (rwOf ρ).halt = false := hh
  unfold Rw.instr
  rw [if_neg (by rw [hh']; exact Bool.false_ne_true)]
  simp only [Rw.fetch, Rw.req, Tr.bind, Tr.path, List.length_nil, h0]
  rw [if_neg (by decide), if_neg (by decide)]
  simp only [if_true, Tr.path, bind_unit, List.nil_append, List.length_singleton, List.singleton_append]
  rfl
theorem bl_len (k : Nat) (ρ : Rw) (ans : Nat → Int) (out : List S56) (got : List Int) : out.length + 2 ≤ ((ρ.bl k).path ans out got).1.length ∧ ((ρ.bl k).path ans out got).1.length ≤ out.length + 3 ∧ ((ρ.bl k).path ans out got).2.2.2.pc = ρ.pc := by
  unfold Rw.bl
  split <;> simp [Rw.bl0, Rw.bl1, Rw.bl2, Rw.bl3, Rw.read, Rw.write, Rw.idle, Rw.inp, Rw.out, Rw.req, Tr.bind, Tr.path, Rw.blockTail0, Rw.blockTail1]
theorem ansOf_two (a b : Int) (l : List Int) (n : Nat) (h : 2 ≤ n) : ansOf (237 :: a :: l) n = ansOf (237 :: b :: l) n := by
  unfold ansOf
  obtain ⟨m, rfl⟩ : ∃ m, n = m + 2 := ⟨n - 2, by omega⟩
  have e : ((m : Int) + 2).toNat = m + 2 := by omega
  simp [rd, e]
theorem blocks_rows (ρ : Rg) (hh : ρ.halt = false) (k : Nat) (hk : k < 8) (l : List Int) :
    ∃ P G S G', rowL (nx ρ 0) (237 :: opOf k :: l) 11 [] [] = some (P, G, S) ∧ 4 ≤ P.length ∧ P.length ≤ 5 ∧ S.pc = inc16 (inc16 ρ.pc) ∧
      (rowL (nx ρ 0) (237 :: (opOf k + 16) :: l) 11 [] [] = some (P, G', S) ∨ rowL (nx ρ 0) (237 :: (opOf k + 16) :: l) 11 [] [] = some (P ++ [⟨6, 0, 0, 5⟩], G', { S with pc := sub2 S.pc, wz := inc16 (sub2 S.pc) })) := by
  have hop : ∀ k : Nat, k < 8 → 0 ≤ opOf k ∧ opOf k < 240 := by decide +kernel
  have ho := hop k hk
  have w1 : wrap64 (opOf k) = opOf k := B.w64 (by omega) (by omega)
  have w2 : wrap64 (opOf k + 16) = opOf k + 16 := B.w64 (by omega) (by omega)
  have a0 : ansOf (237 :: opOf k :: l) 0 = 237 := by simp [ansOf, rd]
  have a1 : ansOf (237 :: opOf k :: l) 1 = opOf k := by simp [ansOf, rd]
  have b0 : ansOf (237 :: (opOf k + 16) :: l) 0 = 237 := by simp [ansOf, rd]
  have b1 : ansOf (237 :: (opOf k + 16) :: l) 1 = opOf k + 16 := by simp [ansOf, rd]
  have eA := instr_ed ρ hh (ansOf (237 :: opOf k :: l)) a0
  have eB := instr_ed ρ hh (ansOf (237 :: (opOf k + 16) :: l)) b0
  rw [a1, w1, (block_op k hk (sigma ρ)).1, Tr.path_bind] at eA
  rw [b1, w2, (block_op k hk (sigma ρ)).2, Tr.path_bind] at eB
  obtain ⟨c1, c2, c3, c4⟩ := path_congr ((sigma ρ).bl k) (ans := ansOf (237 :: opOf k :: l)) (ans' := ansOf (237 :: (opOf k + 16) :: l)) [⟨1, ρ.pc, 0, 4⟩, ⟨1, inc16 ρ.pc, 0, 4⟩] [237, opOf k] [237, opOf k + 16] rfl (fun n hn => ansOf_two _ _ _ _ (by simpa using hn))
  obtain ⟨m1, m2, m3⟩ := bl_len k (sigma ρ) (ansOf (237 :: opOf k :: l)) [⟨1, ρ.pc, 0, 4⟩, ⟨1, inc16 ρ.pc, 0, 4⟩] [237, opOf k]
  rw [← c1, ← c2] at eB
  generalize ((sigma ρ).bl k).path (ansOf (237 :: opOf k :: l)) [⟨1, ρ.pc, 0, 4⟩, ⟨1, inc16 ρ.pc, 0, 4⟩] [237, opOf k] = X at eA eB m1 m2 m3 c1 c2
  generalize (((sigma ρ).bl k).path (ansOf (237 :: (opOf k + 16) :: l)) [⟨1, ρ.pc, 0, 4⟩, ⟨1, inc16 ρ.pc, 0, 4⟩] [237, opOf k + 16]).2.1 = GB at eB
  obtain ⟨P, G, c, σ⟩ := X
  simp only [Tr.path] at eA
  simp only [List.length_cons, List.length_nil] at m1 m2
  have hsp : (sigma ρ).pc = inc16 (inc16 ρ.pc) := rfl
  have rA := row_path (ρ := ρ) (l := 237 :: opOf k :: l) (by rw [eA]; simp only; omega)
  rw [eA] at rA
  cases c with
  | false =>
    have hag : σ.again false = .ret () σ := by simp [Rw.again]
    simp only [hag, Tr.path] at eB
    have rB := row_path (ρ := ρ) (l := 237 :: (opOf k + 16) :: l) (by rw [eB]; simp only; omega)
    rw [eB] at rB
    exact ⟨P, G, σ.toRg, GB, rA, by omega, by omega, m3.trans hsp, .inl rB⟩
  | true =>
    have hag : σ.again true = (σ.idle 5).bind fun _ ρ => .ret () { ρ with pc := sub2 ρ.pc, wz := inc16 (sub2 ρ.pc) } := by simp [Rw.again]
    simp only [hag, Rw.idle, Rw.req, Tr.bind, Tr.path] at eB
    have rB := row_path (ρ := ρ) (l := 237 :: (opOf k + 16) :: l) (by rw [eB]; simp only [List.length_append, List.length_singleton]; omega)
    rw [eB] at rB
    exact ⟨P, G, σ.toRg, _, rA, by omega, by omega, m3.trans hsp, .inr rB⟩
end Go.Proofs.YtnelghpendfdmaaGreatDoor.KRow
