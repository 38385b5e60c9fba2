/-
  Files: the two orders' comparisons.
-/
import Derived.Test.YteakcggbolfelaaDoorPf
namespace Go.Proofs.YteakcggbolfelaaDoor.X
open Go.RowKit Go.Proofs.YteakcggbolfelaaDoorW.PrintWords Go.Proofs.YteakcggbolfelaaDoorW.PrintLast Go.Proofs.YteakcggbolfelaaDoorW.PrintMore
open Go.Proofs.YteakcggbolfelaaDoor.XS
set_option linter.unusedVariables false
set_option linter.unusedSimpArgs false
def cmpN (a b : ByteArray) : Int := Lib.compareBytes a.data.toList b.data.toList
set_option maxHeartbeats 4000000 in
theorem cmp38 (a b : ByteArray) (va vb : Value) (w : World) : Calls Tryd.prog 38 #[.agg #[.string a, va], .agg #[.string b, vb]] w fun e w' => e = .returned (.int .i64 (cmpN a b)) ∧ Below w.heap.size w w' := by
  have hc := q_strings_Compare a b
  have hx : Below w.heap.size w ((w.alloc (.cells #[.string a, va] 47)).alloc (.cells #[.string b, vb] 47)) := ((Below.refl _ _).alloc (Nat.le_refl _) _).alloc (by simp) _
  have HX := Aside0.mk hx
  clear hx
  go_enter Tryd.func38, Tryd.ntmps38
  go_wp2_with (go_at_call 39; (with_reducible refine (hc _).mono ?_); rintro e w2 ⟨rfl, rfl⟩)
  go_ret
  exact ⟨rfl, HX.out⟩
set_option maxHeartbeats 4000000 in
theorem cmp41 (a b : ByteArray) (va vb : Value) (w : World) : Calls Tryd.prog 41 #[.agg #[.string a, va], .agg #[.string b, vb]] w fun e w' => e = .returned (.int .i64 (cmpN a b)) ∧ Below w.heap.size w w' := by
  have hc := q_strings_Compare a b
  have hx : Below w.heap.size w ((w.alloc (.cells #[.string a, va] 37)).alloc (.cells #[.string b, vb] 37)) := ((Below.refl _ _).alloc (Nat.le_refl _) _).alloc (by simp) _
  have HX := Aside0.mk hx
  clear hx
  go_enter Tryd.func41, Tryd.ntmps41
  go_wp2_with (go_at_call 39; (with_reducible refine (hc _).mono ?_); rintro e w2 ⟨rfl, rfl⟩)
  go_ret
  exact ⟨rfl, HX.out⟩
set_option maxHeartbeats 4000000 in
theorem fname_calls (s : ByteArray) (w : World) (hs : s.size ≤ maxLen) : Calls Tryd.prog 7 #[.string s] w fun e w' => e = .returned (.bool (nameOk s true)) ∧ Below w.heap.size w w' := by
  have hn := name_calls s true w hs
  go_enter Tryd.func7, Tryd.ntmps7
  go_wp2_with (go_at_call 25; (with_reducible refine hn.mono ?_); rintro e w2 ⟨rfl, hb⟩; have HB := Aside0.mk hb; clear hb)
  go_ret
  exact ⟨rfl, HB.out⟩
end Go.Proofs.YteakcggbolfelaaDoor.X
