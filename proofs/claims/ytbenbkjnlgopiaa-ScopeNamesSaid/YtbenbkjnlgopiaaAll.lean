/-
  Names and All of scopes: what they tell.
-/
import Derived.Test.YtbenbkjnlgopiaaNm
import Derived.Test.YtbenbkjnlgopiaaInner
namespace Go.Proofs.Ytbenbkjnlgopiaa.X
open Go.RowKit Go.Maps Go.Proofs.YtbenbkjnlgopiaaW.PrintWords Go.Proofs.YtbenbkjnlgopiaaW.PrintLast Go.Proofs.YtbenbkjnlgopiaaW.PrintMore
open Go.Proofs.Ytbenbkjnlgopiaa.XS Go.Sort
set_option linter.unusedVariables false
set_option linter.unusedSimpArgs false
theorem lk_some_iff (n : ByteArray) (es : Lv) : (lk es n).isSome = true ↔ ∃ p, p ∈ es ∧ p.1.toList = n.toList := by
  unfold lk
  rw [Option.isSome_map, List.find?_isSome]
  constructor
  · rintro ⟨p, hp, h⟩; exact ⟨p, hp, by simpa using h⟩
  · rintro ⟨p, hp, h⟩; exact ⟨p, hp, by simpa using h⟩
theorem data_nodup {es : Lv} (hk : (es.map (fun q => q.1.toList)).Nodup) : (es.map (fun q => q.1.data.toList)).Nodup := by
  have : (fun q : ByteArray × Int => q.1.data.toList) = (fun q => q.1.toList) := by funext q; rw [ByteArray.toList_eq]
  rw [this]; exact hk
theorem names_perm {w : World} {mb : Nat} {es : Lv} (hown : w.ownsMap Try.prog 9 (plainElem Try.prog 3) mb es.length (mapD es)) (hk : (es.map (fun q => q.1.toList)).Nodup) : (es.map (fun q => q.1.data.toList)).Perm (strKeys (mapD es)) := by
  obtain ⟨es', hD, hpw⟩ := hown.tidy law9
  obtain ⟨es2, hD2, hko⟩ := hown.keysOf
  have : es' = es2 := by rw [hD] at hD2; injection hD2
  subst this
  have hm : ∀ x, x ∈ es.map (fun q => q.1.data.toList) ↔ has (.map es' : DataW Unit) (.string x) = true := by
    intro x
    rw [← hD]
    have e : (DB x).data.toList = x := by unfold DB; simp
    have h := has_mapD (DB x) es
    rw [e] at h
    rw [h, lk_some_iff, List.mem_map]
    constructor
    · rintro ⟨p, hp, rfl⟩; exact ⟨p, hp, by rw [ByteArray.toList_eq, ByteArray.toList_eq]; unfold DB; simp⟩
    · rintro ⟨p, hp, h2⟩; exact ⟨p, hp, by rw [ByteArray.toList_eq, ByteArray.toList_eq, e] at h2; exact h2⟩
  rw [hD]
  exact perm_strKeys hpw (fun p hp => by obtain ⟨v, hv⟩ := hko p hp; obtain ⟨x, _, hx, _⟩ := Maps.keyOf_str Try.underlying9 hv; exact ⟨x, hx⟩) (data_nodup hk) hm
/-- One scope's names in order. -/
def nmL (es : Lv) : List ByteArray := srt (es.map (·.1))
theorem nmL_len (es : Lv) : (nmL es).length = es.length := by unfold nmL; rw [srt_len, List.length_map]
set_option maxHeartbeats 4000000 in
theorem names_calls (sb mb : Nat) (o : Value) (es : Lv) (w : World) (h : ScAt w sb mb o es) (hk : (es.map (fun q => q.1.toList)).Nodup) (hl : es.length ≤ 1000) :
    Calls Try.prog 11 #[.pointer (some ⟨sb, 0, none⟩)] w fun e w' => ∃ v, e = .returned v ∧ w'.ownsRow w.heap.size 9 1 v (nmL es).length ((nmL es).map Value.string) ∧ Below w.heap.size w w' := by
  have c1 := h.c1
  have hsz := h.own.size_le
  have k17 := callsIn_wide.1 (q_maps_Keys_17 (some mb) w)
  have k16 := callsIn_wide.1 (q_slices_Sorted_keys_16_17 mb es.length (mapD es) _ w h.own (by unfold maxLen; omega) (by omega))
  have HP := Aside0.mk (names_perm h.own hk)
  clear h hk hsz
  go_enter Try.func11, Try.ntmps11
  go_wp2_with (first
    | (go_at_call 17; refine k17.mono ?_; rintro e w1 ⟨rfl, rfl⟩)
    | (go_at_call 16; refine k16.mono ?_; rintro e w2 ⟨v, ss, rfl, hp, ho, hn, hb⟩; have H := Aside0.mk (And.intro hp (And.intro ho hb)); clear hp ho hn hb))
  go_ret
  obtain ⟨hp, ho, hb⟩ := H.out
  refine ⟨v, rfl, ?_, ((Below.refl w.heap.size w).alloc (Nat.le_refl _) _).trans (hb.mono (by simp))⟩
  have hlen : ss.length = (nmL es).length := by rw [nmL_len, hp.length_eq, ← HP.out.length_eq, List.length_map]
  have hsort : (ss.mergeSort fun x y => decide (x ≤ y)) = ((es.map (·.1)).map (·.data.toList)).mergeSort fun x y => decide (x ≤ y) := by
    rw [List.map_map]
    exact mergeSort_of_perm (hp.trans HP.out.symm)
  rw [hlen, hsort] at ho
  unfold nmL
  unfold nmL at ho
  rw [show (srt (es.map (·.1))).map Value.string = ((((es.map (·.1)).map (·.data.toList)).mergeSort fun x y => decide (x ≤ y))).map encStr from DB_enc _]
  exact own_weaken ho (by simp)
def cat (ls : List Sc) : List ByteArray := ls.flatMap (fun p => nmL p.2.2)
def allL (ls : List Sc) : List ByteArray := cmp (srt (cat ls))
theorem info9 : (Try.prog.info? 9).map (fun i => (i.zero, i.size, i.bytes)) = some (some (.string ⟨#[]⟩), 1, 16) := by kernel_rfl
/-- A row that is one's own, read. -/
theorem own_C {N : Nat} {v : Value} {l : List ByteArray} {w : World} (h : w.ownsRow N 9 1 v l.length (l.map Value.string)) (hl : l.length ≤ 1000000) : ∃ A c, v = .slice A l.length c ∧ l.length ≤ c ∧ Kd.C Kd.string w A l.length l := by
  rcases h.2 with ⟨rfl, hz⟩ | ⟨g, cap, cur, rfl, hbg, hb, h1, h2, h3, h4⟩
  · obtain rfl := List.eq_nil_of_length_eq_zero hz
    exact ⟨none, 0, rfl, Nat.le_refl _, rfl, by simp, fun hn => absurd hn (by simp)⟩
  · refine ⟨_, cap, rfl, h1, Kd.C_of_reads (d := ⟨#[]⟩) ⟨rfl, by omega, fun hn => ⟨_, rfl, fun j hj => ?_⟩⟩⟩
    have := h.cells (g := g) rfl j (.string (l.getD j ⟨#[]⟩)) (by rw [List.getElem?_map, List.getElem?_eq_getElem hj]; simp [List.getD_eq_getElem?_getD, List.getElem?_eq_getElem hj])
    exact this
set_option maxRecDepth 100000 in
set_option maxHeartbeats 8000000 in
theorem all_calls (ls : List Sc) (o : Value) (w : World) (h : Chain w ls o) (hk : ∀ p, p ∈ ls → (p.2.2.map (fun q => q.1.toList)).Nodup) (hl : ∀ p, p ∈ ls → p.2.2.length ≤ 1000) (ht : (cat ls).length ≤ 1000) :
    Calls Try.prog 12 #[o] w fun e w' => ∃ v, e = .returned v ∧ w'.ownsRow w.heap.size 9 1 v (allL ls).length ((allL ls).map Value.string) ∧ Below w.heap.size w w' := by
  obtain ⟨a0, ha0⟩ : ∃ a, o = .pointer a := by
    cases ls with
    | nil => exact ⟨_, h⟩
    | cons p r => exact ⟨_, h.1⟩
  subst ha0
  have HC := Aside0.mk h
  have HK := Aside0.mk (And.intro hk (And.intro hl ht))
  clear h hk hl ht
  go_enter Try.func12, Try.ntmps12
  go_wp2
  (try simp only [Act.put, List.setIfInBounds_toArray, List.set_cons_zero, List.set_cons_succ])
  go_loopg [0, 3] (ls.length + 1) (fun kq v0 v3 wr => ∃ (q : List Sc) (acc : List ByteArray), Aside0 (q.length + 1 = kq) ∧ Aside0 (Chain wr q v0) ∧ Aside0 (∀ p, p ∈ q → p ∈ ls) ∧ Aside0 (acc ++ cat q = cat ls) ∧ Aside0 (Kd.R Kd.string 9 wr w.heap.size (fun k => w.heap.size ≤ k) v3 acc) ∧ Aside0 (Below w.heap.size w wr))
  case atStart => exact ⟨ls, [], ⟨rfl⟩, HC, ⟨fun p hp => hp⟩, ⟨rfl⟩, ⟨Kd.R_nil _ _ _ _ _⟩, ⟨Below.refl _ _⟩⟩
  case round =>
    obtain ⟨q, acc, HQ, HCh, HSub, HT, HO, HB⟩ := hrel
    cases q with
    | nil =>
      have hch := HCh.out
      obtain rfl := hch
      have hacc : acc = cat ls := by have := HT.out; simpa [cat] using this
      have hal : acc.length < 1000000 := by have := HK.out.2.2; rw [hacc]; omega
      have HACC := Aside0.mk hacc
      have HAL := Aside0.mk hal
      have hso := sort_calls w.heap.size u3 acc wr (Kd.own_of_R HO.out) hal HB.out.size
      clear hacc hal
      go_wp2_with (first
        | (go_at_call 18; refine hso.mono ?_; rintro e w2 ⟨rfl, ho, hb⟩; have HO2 := Aside0.mk ho; have HB2 := Aside0.mk hb; clear hso hb; have hco := compact_calls w.heap.size u3 (srt acc) _ (by rw [srt_len]; exact ho) (by rw [srt_len]; exact HAL.out); clear ho)
        | (go_at_call 19; refine hco.mono ?_; rintro e w3 ⟨v', rfl, ho, hb⟩; have HO3 := Aside0.mk ho; have HB3 := Aside0.mk hb; clear hco ho hb))
      go_ret
      exact ⟨_, rfl, by unfold allL; rw [← HACC.out]; exact HO3.out, (HB.out.trans HB2.out).trans HB3.out⟩
    | cons p r =>
      obtain ⟨e0, o', h2, h4⟩ := HCh.out
      subst e0
      obtain ⟨a', ha'⟩ : ∃ a, o' = .pointer a := by
        cases r with
        | nil => exact ⟨_, h4⟩
        | cons p r => exact ⟨_, h4.1⟩
      subst ha'
      have hpl := HK.out.2.1 p (HSub.out p List.mem_cons_self)
      have hnm := names_calls p.1 p.2.1 _ p.2.2 wr h2 (HK.out.1 p (HSub.out p List.mem_cons_self)) hpl
      have HS2 := Aside0.mk h2
      have H4 := Aside0.mk h4
      have hcat : acc ++ nmL p.2.2 ++ cat r = cat ls := by rw [← HT.out, List.append_assoc]; rfl
      have hle : acc.length + (nmL p.2.2).length ≤ 1000 := by
        have h := HK.out.2.2
        rw [← hcat] at h
        simp only [List.length_append] at h
        omega
      have HCT := Aside0.mk hcat
      have HLE := Aside0.mk hle
      have hpw := (HC.out.lt p (HSub.out p List.mem_cons_self)).1
      have HX : Aside0 (∀ w9, Below w.heap.size w w9 → w9.cell? ⟨p.1, 0, none⟩ = some (.pointer a')) := ⟨fun w9 hb => (hb.cell (p := ⟨p.1, 0, none⟩) hpw).trans ((HB.out.cell (p := ⟨p.1, 0, none⟩) hpw).symm.trans h2.c0)⟩
      clear h2 h4 hpl hcat hle hpw
      go_wp2_with (first
        | (go_at_call 11; (with_reducible refine hnm.mono ?_); rintro e w2 ⟨vn, rfl, ho, hb⟩; obtain ⟨An, cn, rfl, hcn, hC⟩ := own_C ho (by have := HLE.out; omega); have HC2 := Aside0.mk hC; have HB2 := Aside0.mk hb; clear hnm hcn hC ho hb)
        | ((with_reducible refine gate_builtin (b := .append) (xs := #[.tmp 10, .tmp 12]) rfl ?_); at_builtin; refine Kd.R_append_rows Kd.string (w0 := w) w.heap.size rfl (.tmp 10) (.tmp 12) 38 9 (.string ⟨#[]⟩) 16 rfl Try.underlying38 info9 rfl (by decide) (by omega) u3 acc (nmL p.2.2) _ _ _ (fun k => w.heap.size ≤ k) (fun _ => False) rfl rfl ?aO ?aR (fun _ _ h => h) (fun _ h => h.elim) ?aF ?aB ?aS ?aL ?_; (case aR => exact HC2.out); (case aB => exact HB.out.trans (HB2.out.mono HB.out.size)); (case aF => exact (fun k hk => Nat.le_trans (HB.out.trans (HB2.out.mono HB.out.size)).size hk)); (case aO => exact Kd.R_below HO.out HB2.out); (case aS => exact (HB.out.trans (HB2.out.mono HB.out.size)).size); (case aL => have := HLE.out; omega); intro v9 w9 ho hb hg hat; have HO9 := Aside0.mk ho; have HB9 := Aside0.mk hb; have c9 := HX.out w9 hb; clear ho hb hg hat))
      go_roundg (r.length + 1)
      case measure => have := HQ.out; simp only [List.length_cons] at this; omega
      case rel => exact ⟨r, acc ++ nmL p.2.2, ⟨rfl⟩, ⟨H4.out.keep (fun q hq => ⟨by
          have hl := (HC.out.lt q (HSub.out q (List.mem_cons_of_mem _ hq))).1
          rw [HB9.out.block _ hl, HB.out.block _ hl], by
          have hl := (HC.out.lt q (HSub.out q (List.mem_cons_of_mem _ hq))).2
          rw [HB9.out.block _ hl, HB.out.block _ hl]⟩)⟩, ⟨fun q hq => HSub.out q (List.mem_cons_of_mem _ hq)⟩, HCT, HO9, HB9⟩
end Go.Proofs.Ytbenbkjnlgopiaa.X
