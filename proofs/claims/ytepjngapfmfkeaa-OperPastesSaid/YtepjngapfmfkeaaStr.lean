/-
  The runes of a string, and their conversion.
-/
import Derived.Test.YtepjngapfmfkeaaAct2
import Derived.Laws.IdiomStrings
set_option linter.unusedVariables false
set_option linter.unusedSimpArgs false
namespace Go.Ink
open Go Go.RowKit

theorem decode_max (s : ByteArray) (pos : Nat) : (Utf8.decode s pos).1 ≤ 1114111 := by
  unfold Utf8.decode
  simp only [Nat.add_zero]
  repeat' split
  all_goals simp only [Utf8.runeError]
  all_goals try omega
  all_goals next h => simp [Utf8.valid] at h; omega
theorem decode_pos (s : ByteArray) (pos : Nat) : 1 ≤ (Utf8.decode s pos).2 := by
  unfold Utf8.decode
  simp only
  repeat' split
  all_goals omega
def runesL (s : ByteArray) : Nat → Nat → List Int
  | 0, _ => []
  | b + 1, i => if i < s.size then ((Utf8.decode s i).1 : Int) :: runesL s b (i + (Utf8.decode s i).2) else []
def runesOf (s : ByteArray) : List Int := runesL s s.size 0
theorem runesFrom_eq (s : ByteArray) : ∀ (b i : Nat) (acc : Array Value), Conv.runesFrom s b i acc = acc ++ ((runesL s b i).map fun n => Value.int .i32 n).toArray
  | 0, _, acc => by simp [Conv.runesFrom, runesL]
  | b + 1, i, acc => by
    unfold Conv.runesFrom runesL
    split
    · simp [runesFrom_eq s b]
    · simp
theorem runesL_le (s : ByteArray) : ∀ b i, (runesL s b i).length ≤ b
  | 0, _ => by simp [runesL]
  | b + 1, i => by
    unfold runesL
    split
    · have := runesL_le s b (i + (Utf8.decode s i).2); simp; omega
    · simp
theorem runesL_max (s : ByteArray) : ∀ b i, ∀ x ∈ runesL s b i, 0 ≤ x ∧ x ≤ 1114111
  | 0, _ => by simp [runesL]
  | b + 1, i => by
    unfold runesL
    split
    · intro x hx
      rcases List.mem_cons.1 hx with rfl | hx
      · have := decode_max s i; omega
      · exact runesL_max s b _ x hx
    · simp
theorem runesOf_le (s : ByteArray) : (runesOf s).length ≤ s.size := runesL_le s _ _
theorem runesOf_max (s : ByteArray) : ∀ x ∈ runesOf s, 0 ≤ x ∧ x ≤ 1114111 := runesL_max s _ _
theorem els_runes {F : Nat → Prop} {w : World} : ∀ {xs : List Int}, (∀ x ∈ xs, 0 ≤ x ∧ x ≤ 1114111) → Els kRune F w xs (xs.map fun n => Value.int .i32 n)
  | [], _ => rfl
  | x :: xs, h => ⟨[.int .i32 x], _, rfl, ⟨rfl, by have := h x (by simp); omega, by have := h x (by simp); omega⟩, els_runes fun y hy => h y (List.mem_cons_of_mem _ hy)⟩
section
variable {P : Program} {N : Nat} {σ : Sig} {w : World} {dst : Option Nat} {ty : TypeId} {pos : String} {af : Array Edge} {gd : Option (Nat × Bool)}
theorem e_runes {x : Operand} {t t' e : TypeId} [hS : StrT P t] [hT : SlT P t' e] [hI : IntT P e .i32] {s : ByteArray} (hx : ev σ x = some (.string s)) (hs : s.size ≤ 35184372088832) :
    Ef P N σ w ⟨dst, .convert t t' x, ty, pos, af, gd⟩ (fun v w' => Kn w w' ∧ Ow kRune (fun k => w.heap.size ≤ k) (fun _ => False) w' v (runesOf s)) := by
  constructor; intro _ a w0 ha h0
  have hl := runesOf_le s
  have he : Conv.runesFrom s s.size 0 #[] = ((runesOf s).map fun n => Value.int .i32 n).toArray := by rw [runesFrom_eq]; simp [runesOf]
  have hsz : (Conv.runesFrom s s.size 0 #[]).size = (runesOf s).length := by rw [he]; simp
  have hr := run_runes_of_string (P := P) w0 t t' e s hS.und hT.und hI.und (by rw [hsz]; omega)
  rw [hsz, he] at hr
  have hcg := grownCap_ge w0 (runesOf s).length 0 e
  have hcm := grownCap_le_maxLen w0 (runesOf s).length 0 e (by unfold maxLen; omega)
  have hn := nb_alloc (h0.trans (Dr.drawn w0 (w0.drawn + 1))) (.cells (((runesOf s).map fun n => Value.int .i32 n).toArray ++ Array.replicate (grownCap w0 (runesOf s).length 0 e - (runesOf s).length) (.int .i32 0)) e)
  refine ⟨.slice (some ⟨w0.heap.size, 0, none⟩) (runesOf s).length (grownCap w0 (runesOf s).length 0 e), _, ?_, hn.kn, ?_⟩
  rotate_left
  · refine ow_new (d := kRune) (w := w) (cells := (runesOf s).map fun n => Value.int .i32 n) (rest := List.replicate (grownCap w0 (runesOf s).length 0 e - (runesOf s).length) (.int .i32 0)) (g := w0.heap.size) (cap := grownCap w0 (runesOf s).length 0 e) (e := e) (els_runes (runesOf_max s)) (by
      have e2 : (((runesOf s).map fun n => Value.int .i32 n) ++ List.replicate (grownCap w0 (runesOf s).length 0 e - (runesOf s).length) (Value.int .i32 0)).toArray = ((runesOf s).map fun n => Value.int .i32 n).toArray ++ Array.replicate (grownCap w0 (runesOf s).length 0 e - (runesOf s).length) (Value.int .i32 0) := by
        apply Array.toList_inj.1
        simp
      rw [e2]
      exact hn) hcg hcm ?_ ?_ hn.ge
    · show (runesOf s).length * 4 ≤ 140737488355328
      omega
    · show grownCap w0 (runesOf s).length 0 e * 1 ≤ _
      simp
      omega
  · simp only [execOp, ha.ev hx, hr, Sem.run_bind, Sem.run_pure, Result.andThen_ok]
    rfl
end
end Go.Ink
