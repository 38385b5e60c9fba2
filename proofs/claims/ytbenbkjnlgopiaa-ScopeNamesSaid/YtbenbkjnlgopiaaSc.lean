/-
  Scopes: the plain model, and the contracts of New, Outer, Insert, Own, Find.
-/
import Derived.Test.YtbenbkjnlgopiaaXCode
import Derived.Maps.OwnSet
import Derived.Maps.Views
import Derived.Deep.LoopGhost
import Derived.Outline
import Derived.Laws.Cover1
import Derived.StringKeys
namespace Go.Proofs.Ytbenbkjnlgopiaa.X
open Go.WideMaps (keyOf_string_mk)
open Go.RowKit Go.Maps Go.Proofs.YtbenbkjnlgopiaaW.PrintWords Go.Proofs.YtbenbkjnlgopiaaW.PrintLast Go.Proofs.YtbenbkjnlgopiaaW.PrintMore
set_option linter.unusedVariables false
set_option linter.unusedSimpArgs false
/-- One scope's names, the newest first. -/
abbrev Lv := List (ByteArray × Int)
def lk (es : Lv) (n : ByteArray) : Option Int := (es.find? (fun p => p.1.toList == n.toList)).map (·.2)
/-- The map as it reads. -/
def mapD : Lv → DataW Unit
  | [] => .map []
  | p :: es => (mapD es).put (.string p.1.data.toList) (.lit (.int .i64 p.2))
theorem mapD_isMap : ∀ es, IsMap (mapD es)
  | [] => isMap_empty
  | p :: es => (mapD_isMap es).put _ _
theorem key_str (l : List UInt8) : WideAt.IsKeyLit (.string l) := by first | trivial | exact .string l | simp [WideAt.IsKeyLit]
theorem has_mapD (n : ByteArray) : ∀ es : Lv, has (mapD es) (.string n.data.toList) = (lk es n).isSome
  | [] => rfl
  | p :: es => by
    unfold mapD
    by_cases c : p.1.toList = n.toList
    · have e : p.1.data.toList = n.data.toList := by rw [← ByteArray.toList_eq, ← ByteArray.toList_eq]; exact c
      rw [e, has_put_same (mapD_isMap es) (key_str _)]
      unfold lk
      rw [List.find?_cons_of_pos (by simpa using c)]; rfl
    · have e : (Lit.string n.data.toList) ≠ .string p.1.data.toList := by
        intro h; injection h with h; rw [← ByteArray.toList_eq, ← ByteArray.toList_eq] at h; exact c h.symm
      rw [has_put_other e, has_mapD n es]
      unfold lk
      rw [List.find?_cons_of_neg (by simpa using c)]
theorem at_mapD (n : ByteArray) : ∀ es : Lv, (mapD es).atKey (.string n.data.toList) (.lit (.int .i64 0)) = .lit (.int .i64 ((lk es n).getD 0))
  | [] => rfl
  | p :: es => by
    unfold mapD
    by_cases c : p.1.toList = n.toList
    · have e : p.1.data.toList = n.data.toList := by rw [← ByteArray.toList_eq, ← ByteArray.toList_eq]; exact c
      rw [e, atKey_put_same (mapD_isMap es) (key_str _)]
      unfold lk
      rw [List.find?_cons_of_pos (by simpa using c)]; rfl
    · have e : (Lit.string n.data.toList) ≠ .string p.1.data.toList := by
        intro h; injection h with h; rw [← ByteArray.toList_eq, ← ByteArray.toList_eq] at h; exact c h.symm
      rw [atKey_put_other e, at_mapD n es]
      unfold lk
      rw [List.find?_cons_of_neg (by simpa using c)]
theorem law9 : Keyed Try.prog 9 := string_keyed Try.underlying9
theorem zero3 (w : World) : (zeroValue 3).run Try.prog w = .ok (.int .i64 0) w := by kernel_rfl
/-- A scope in memory. -/
structure ScAt (w : World) (sb mb : Nat) (o : Value) (es : Lv) : Prop where
  cells : w.heap[sb]? = some (.cells #[o, .map (some mb)] 49 (0, 0))
  own : w.ownsMap Try.prog 9 (plainElem Try.prog 3) mb es.length (mapD es)
theorem ScAt.c0 {w : World} {sb mb : Nat} {o : Value} {es : Lv} (h : ScAt w sb mb o es) : w.cell? ⟨sb, 0, none⟩ = some o := by simp [World.cell?, h.cells]
theorem ScAt.c1 {w : World} {sb mb : Nat} {o : Value} {es : Lv} (h : ScAt w sb mb o es) : w.cell? ⟨sb, 1, none⟩ = some (.map (some mb)) := by simp [World.cell?, h.cells]
/-- Scopes, the innermost first. -/
abbrev Sc := Nat × Nat × Lv
def Chain (w : World) : List Sc → Value → Prop
  | [], o => o = .pointer none
  | p :: r, o => o = .pointer (some ⟨p.1, 0, none⟩) ∧ ∃ o', ScAt w p.1 p.2.1 o' p.2.2 ∧ Chain w r o'
theorem ScAt.keep {w w' : World} {sb mb : Nat} {o : Value} {es : Lv} (h : ScAt w sb mb o es) (h1 : w'.heap[sb]? = w.heap[sb]?) (h2 : w'.heap[mb]? = w.heap[mb]?) : ScAt w' sb mb o es := by
  obtain ⟨a, b⟩ := h
  obtain ⟨es', clock, hb, r⟩ := b
  exact ⟨h1.trans a, es', clock, h2.trans hb, r⟩
theorem ScAt.lt {w : World} {sb mb : Nat} {o : Value} {es : Lv} (h : ScAt w sb mb o es) : sb < w.heap.size ∧ mb < w.heap.size := ⟨(Array.getElem?_eq_some_iff.1 h.cells).1, h.own.lt⟩
theorem Chain.keep {w w' : World} : ∀ {ls : List Sc} {o : Value}, Chain w ls o → (∀ p, p ∈ ls → w'.heap[p.1]? = w.heap[p.1]? ∧ w'.heap[p.2.1]? = w.heap[p.2.1]?) → Chain w' ls o
  | [], _, h, _ => h
  | p :: r, _, ⟨h1, o', h2, h3⟩, k => ⟨h1, o', h2.keep (k p List.mem_cons_self).1 (k p List.mem_cons_self).2, h3.keep (fun q hq => k q (List.mem_cons_of_mem _ hq))⟩
theorem Chain.lt {w : World} : ∀ {ls : List Sc} {o : Value}, Chain w ls o → ∀ p, p ∈ ls → p.1 < w.heap.size ∧ p.2.1 < w.heap.size
  | p :: r, _, ⟨_, o', h2, h3⟩, q, hq => by
    rcases List.mem_cons.1 hq with rfl | hq
    · exact h2.lt
    · exact h3.lt q hq
theorem Chain.below {w w' : World} {ls : List Sc} {o : Value} (h : Chain w ls o) (hb : Below w.heap.size w w') : Chain w' ls o :=
  h.keep (fun p hp => ⟨hb.block _ (h.lt p hp).1, hb.block _ (h.lt p hp).2⟩)
/-- What is found from a scope on, and how many scopes up (counted from k on). -/
def fnd (n : ByteArray) : List Sc → Nat → Option (Int × Nat)
  | [], _ => none
  | p :: r, k => match lk p.2.2 n with | some v => some (v, k) | none => fnd n r (k + 1)
def fndV : Option (Int × Nat) → Value
  | none => .tuple #[.int .i64 0, .int .i64 0, .bool false]
  | some (v, u) => .tuple #[.int .i64 v, .int .i64 (u : Int), .bool true]
set_option maxHeartbeats 4000000 in
theorem new_calls (a : Option Addr) (w : World) : Calls Try.prog 8 #[.pointer a] w fun e w' => e = .returned (.pointer (some ⟨w.heap.size + 1, 0, none⟩)) ∧ w' = (w.alloc (.map #[] 0)).alloc (.cells #[.pointer a, .map (some w.heap.size)] 49) := by
  have hmm := @run_makeMap Try.prog
  go_enter Try.func8, Try.ntmps8
  go_wp2
  go_ret
  exact ⟨by first | rfl | simp, rfl⟩
set_option maxHeartbeats 4000000 in
theorem own_calls (sb mb : Nat) (o : Value) (es : Lv) (n : ByteArray) (w : World) (h : ScAt w sb mb o es) (hn : n.size ≤ maxLen) :
    Calls Try.prog 13 #[.pointer (some ⟨sb, 0, none⟩), .string n] w fun e w' => e = .returned (.tuple #[.int .i64 ((lk es n).getD 0), .bool (lk es n).isSome]) ∧ w = w' := by
  have hkey := keyOf_string_mk Try.underlying9 hn
  have c1 := h.c1
  have hown := h.own
  have H1 := Aside0.mk (has_mapD n es)
  have H2 := Aside0.mk (at_mapD n es)
  clear h
  go_enter Try.func13, Try.ntmps13
  go_wp2_with (at_lookup; refine wpList_lookup_own_ok_int _ rfl _ _ 47 rfl 9 3 .i64 law9 Try.underlying47 Try.underlying3 (zero3 _) mb _ _ rfl hown _ _ rfl hkey ?_; intro c hat hwc; rw [H1.out]; rw [H2.out] at hat; have H3 := Aside0.mk hat; clear hat hwc)
  go_ret2
  have h3 := H3.out
  injection h3 with h3
  injection h3 with _ h3
  exact ⟨by rw [h3]; rfl, rfl⟩
set_option maxHeartbeats 4000000 in
theorem own_nil (n : ByteArray) (w : World) : Calls Try.prog 13 #[.pointer none, .string n] w fun e w' => e = .returned (.tuple #[.int .i64 0, .bool false]) ∧ w = w' := by
  go_enter Try.func13, Try.ntmps13
  go_wp2
  go_ret2
  exact ⟨rfl, rfl⟩
set_option maxHeartbeats 4000000 in
theorem outer_calls (w : World) (ls : List Sc) (o : Value) (h : Chain w ls o) : Calls Try.prog 14 #[o] w fun e w' => ∃ o', e = .returned o' ∧ Chain w ls.tail o' ∧ w = w' := by
  cases ls with
  | nil =>
    obtain rfl := h
    go_enter Try.func14, Try.ntmps14
    go_wp2
    go_ret
    exact ⟨_, rfl, rfl, rfl⟩
  | cons p r =>
    obtain ⟨rfl, o', h2, h3⟩ := h
    have c0 := h2.c0
    have H := Aside0.mk h3
    clear h2 h3
    go_enter Try.func14, Try.ntmps14
    go_wp2
    go_ret
    exact ⟨_, rfl, H.out, rfl⟩
set_option maxHeartbeats 4000000 in
theorem find_calls (n : ByteArray) (ls : List Sc) (o : Value) (w : World) (h : Chain w ls o) (hn : n.size ≤ maxLen) (hl : ls.length ≤ 1000) :
    Calls Try.prog 7 #[o, .string n] w fun e w' => e = .returned (fndV (fnd n ls 0)) ∧ w = w' := by
  have HC := Aside0.mk h
  have HL := Aside0.mk hl
  have HR : Aside0 (fnd n ls 0 = fnd n ls 0) := ⟨rfl⟩
  obtain ⟨res, hres⟩ : ∃ res, fnd n ls 0 = res := ⟨_, rfl⟩
  rw [hres] at HR ⊢
  have H0 := Aside0.mk hres
  obtain ⟨a0, ha0⟩ : ∃ a, o = .pointer a := by
    cases ls with
    | nil => exact ⟨_, h⟩
    | cons p r => exact ⟨_, h.1⟩
  subst ha0
  clear h hl hres HR
  go_enter Try.func7, Try.ntmps7
  go_wp2
  (try simp only [Act.put, List.setIfInBounds_toArray, List.set_cons_zero, List.set_cons_succ])
  go_loopg [0, 5] (ls.length + 1) (fun kq v0 v5 wr => ∃ (r : List Sc) (k : Nat), v5 = .int .i64 k ∧ Aside0 (r.length + 1 = kq ∧ k + r.length = ls.length) ∧ Aside0 (Chain w r v0) ∧ Aside0 (fnd n r k = res) ∧ w = wr)
  case atStart => exact ⟨ls, 0, rfl, ⟨rfl, by omega⟩, HC, H0, rfl⟩
  case round =>
    obtain ⟨r, k, rfl, H1, H2, H3, rfl⟩ := hrel
    cases r with
    | nil =>
      obtain rfl := H2.out
      have h3 := H3.out
      have H4 : Aside0 (res = none) := ⟨h3.symm⟩
      clear h3
      go_wp2
      go_ret3
      rw [H4.out]
      exact ⟨rfl, rfl⟩
    | cons p r =>
      obtain ⟨e0, o', h2, h4⟩ := H2.out
      subst e0
      have hk1 := H1.out
      have hk2 := HL.out
      have e1 : (IntKind.i64.wrap ((k : Int) + 1)) = ((k + 1 : Nat) : Int) := by simp only [List.length_cons] at hk1; rw [i64_w]; unfold wrap64; omega
      have hown := own_calls p.1 p.2.1 o' p.2.2 n w h2 hn
      have c0 := h2.c0
      have HT := Aside0.mk h4
      have h3 := H3.out
      unfold fnd at h3
      clear h2 h4 hk1 hk2 H2 H3
      cases hc : lk p.2.2 n with
      | none =>
        rw [hc] at h3 hown
        have H5 : Aside0 (fnd n r (k + 1) = res) := ⟨h3⟩
        clear h3 hc
        simp only [Option.getD_none, Option.isSome_none] at hown
        go_wp2_with (go_at_call 13; refine hown.mono ?_; rintro e w1 ⟨rfl, rfl⟩)
        go_roundg (r.length + 1)
        case measure => have := H1.out; simp at this; omega
        case rel => exact ⟨r, k + 1, by first | rfl | simp [e1], ⟨rfl, by have := H1.out; simp at this; omega⟩, HT, H5, rfl⟩
      | some v =>
        rw [hc] at h3 hown
        have H5 : Aside0 (res = some (v, k)) := ⟨h3.symm⟩
        clear h3 hc
        simp only [Option.getD_some, Option.isSome_some] at hown
        go_wp2_with (go_at_call 13; refine hown.mono ?_; rintro e w1 ⟨rfl, rfl⟩)
        go_ret3
        rw [H5.out]
        exact ⟨rfl, rfl⟩
/-! ### Insert -/
set_option maxHeartbeats 4000000 in
theorem ins_nil (n : ByteArray) (v : Int) (w : World) : Calls Try.prog 9 #[.pointer none, .string n, .int .i64 v] w fun e w' => e = .returned (errC (some 1)) ∧ w = w' := by
  go_enter Try.func9, Try.ntmps9
  go_wp2
  go_ret
  exact ⟨rfl, rfl⟩
set_option maxHeartbeats 4000000 in
theorem ins_empty (a : Addr) (n : ByteArray) (v : Int) (w : World) (hn : n.toList = []) : Calls Try.prog 9 #[.pointer (some a), .string n, .int .i64 v] w fun e w' => e = .returned (errC (some 1)) ∧ w = w' := by
  go_enter Try.func9, Try.ntmps9
  go_wp2
  go_ret
  exact ⟨rfl, rfl⟩
set_option maxHeartbeats 4000000 in
theorem ins_blank (a : Addr) (n : ByteArray) (v : Int) (w : World) (hn : n.toList = [95]) : Calls Try.prog 9 #[.pointer (some a), .string n, .int .i64 v] w fun e w' => e = .returned (errC none) ∧ w = w' := by
  go_enter Try.func9, Try.ntmps9
  go_wp2
  go_ret
  exact ⟨rfl, rfl⟩
set_option maxRecDepth 100000 in
set_option maxHeartbeats 4000000 in
theorem ins_dup (sb mb : Nat) (o : Value) (es : Lv) (n : ByteArray) (v : Int) (w : World) (h : ScAt w sb mb o es) (hn : n.size ≤ maxLen) (h1 : ¬ n.toList = []) (h2 : ¬ n.toList = [95]) (hd : (lk es n).isSome = true) :
    Calls Try.prog 9 #[.pointer (some ⟨sb, 0, none⟩), .string n, .int .i64 v] w fun e w' => e = .returned (errC (some 6)) ∧ w = w' := by
  have hkey := keyOf_string_mk Try.underlying9 hn
  have c1 := h.c1
  have hown := h.own
  have k1 : n.toList.isEmpty = false := by cases c : n.toList with | nil => exact absurd c h1 | cons _ _ => rfl
  have k2 : (n.toList == [95]) = false := by simpa using h2
  have H1 := Aside0.mk ((has_mapD n es).trans hd)
  clear h hd
  go_enter Try.func9, Try.ntmps9
  go_wp2_with (at_lookup; refine wpList_lookup_own_ok_int _ rfl _ _ 47 rfl 9 3 .i64 law9 Try.underlying47 Try.underlying3 (zero3 _) mb _ _ rfl hown _ _ rfl hkey ?_; intro c hat hwc; rw [H1.out]; clear hat hwc)
  go_ret
  exact ⟨rfl, rfl⟩
set_option maxRecDepth 100000 in
set_option maxHeartbeats 4000000 in
theorem ins_new (sb mb : Nat) (o : Value) (es : Lv) (n : ByteArray) (v : Int) (w : World) (h : ScAt w sb mb o es) (hn : n.size ≤ maxLen) (hv : (Lit.int .i64 v).wf = true) (hl : es.length ≤ 1000) (h1 : ¬ n.toList = []) (h2 : ¬ n.toList = [95]) (hd : lk es n = none) :
    Calls Try.prog 9 #[.pointer (some ⟨sb, 0, none⟩), .string n, .int .i64 v] w fun e w' => e = .returned (errC none) ∧ ScAt w' sb mb o ((n, v) :: es) ∧ w.mapTurned w' mb := by
  have hkey := keyOf_string_mk Try.underlying9 hn
  have c1 := h.c1
  have hown := h.own
  have hne : sb ≠ mb := by
    intro e
    obtain ⟨es', clock, hb, _⟩ := hown
    rw [← e, h.cells] at hb; cases hb
  have k1 : n.toList.isEmpty = false := by cases c : n.toList with | nil => exact absurd c h1 | cons _ _ => rfl
  have k2 : (n.toList == [95]) = false := by simpa using h2
  have H1 : Aside0 (has (mapD es) (.string n.data.toList) = false) := ⟨by rw [has_mapD, hd]; rfl⟩
  have H2 := Aside0.mk h
  have H3 := Aside0.mk hne
  clear h hd hne
  go_enter Try.func9, Try.ntmps9
  go_wp2_with (first | (at_lookup; refine wpList_lookup_own_ok_int _ rfl _ _ 47 rfl 9 3 .i64 law9 Try.underlying47 Try.underlying3 (zero3 _) mb _ _ rfl hown _ _ rfl hkey ?_; intro c hat hwc; rw [H1.out]; clear hat hwc) | (at_mapUpdate; refine wpList_mapUpdate_in _ rfl _ _ _ 47 rfl 9 3 law9 Try.underlying47 _ mb _ _ rfl hown (by unfold maxLen; omega) _ _ _ rfl rfl hkey _ [] (plainElem_int Try.underlying3 hv) ?_; intro w1 hown1 hturn1; have H4 := Aside0.mk hown1; have H5 := Aside0.mk hturn1; clear hown1 hturn1))
  go_ret
  exact ⟨rfl, ⟨(H5.out.grown.block sb H2.out.lt.1 (fun e => H3.out (by injection e))).trans H2.out.cells, H4.out⟩, H5.out⟩
end Go.Proofs.Ytbenbkjnlgopiaa.X
