/-
  The document's Distance is the least number of steps: the induction over its two helpers closes.
-/
import Derived.Test.YtfofgbiipppocaaXRF55
namespace Go.Proofs.Ytfofgbiipppocaa.XR
open Go.RowKit Go.Proofs.YtfofgbiipppocaaW.PrintWords Go.Proofs.YtfofgbiipppocaaW.PrintLast Go.Proofs.YtfofgbiipppocaaW.PrintMore Go.Proofs.Ytfofgbiipppocaa.Near
theorem BL_map (a : ByteArray) : ∀ n, (RP a n).reverse = (List.range n).map (fun i : Nat => bt a (i : Int))
  | 0 => rfl
  | n + 1 => by rw [RP, List.reverse_cons, BL_map a n, List.range_succ, List.map_append]; rfl
theorem bt_extract (a : ByteArray) (d i : Nat) (h : i + d < a.size) : bt (a.extract d a.size) (i : Int) = bt a ((i + d : Nat) : Int) := by
  unfold bt
  rw [Int.toNat_natCast, Int.toNat_natCast]
  have hs : (a.extract d a.size).size = a.size - d := by rw [ByteArray.size_extract]; omega
  rw [dif_pos (by omega), dif_pos h, ByteArray.getElem_extract]
  congr 3
  omega
theorem ext_size (a : ByteArray) (d : Nat) : (a.extract d a.size).size = a.size - d := by rw [ByteArray.size_extract]; omega
theorem BL_len (a : ByteArray) : (BL a).length = a.size := by unfold BL; rw [List.length_reverse, RP_len]
theorem BL_cons (a : ByteArray) (h : 0 < a.size) : BL a = bt a 0 :: BL (a.extract 1 a.size) := by
  unfold BL
  rw [BL_map, BL_map, ext_size]
  obtain ⟨n, hn⟩ : ∃ n, a.size = n + 1 := ⟨a.size - 1, by omega⟩
  have e : (List.range (a.size - 1)).map (fun i : Nat => bt (a.extract 1 a.size) (i : Int)) = (List.range n).map (fun i : Nat => bt a ((i + 1 : Nat) : Int)) := by
    rw [show a.size - 1 = n by omega]
    apply List.map_congr_left
    intro i hi
    exact bt_extract a 1 i (by have := List.mem_range.1 hi; omega)
  rw [e, hn, List.range_succ_eq_map, List.map_cons, List.map_map]
  rfl
theorem BL_nil (a : ByteArray) (h : a.size = 0) : BL a = [] := by
  have := BL_len a; rw [h] at this; exact List.length_eq_zero_iff.1 this
theorem ext_ext (a : ByteArray) (h : 1 < a.size) : BL (a.extract 1 a.size) = bt a 1 :: BL (a.extract 2 a.size) := by
  have h1 := BL_cons (a.extract 1 a.size) (by rw [ext_size]; omega)
  have e0 : bt (a.extract 1 a.size) 0 = bt a 1 := bt_extract a 1 0 (by omega)
  rw [h1, e0]
  have : BL ((a.extract 1 a.size).extract 1 (a.extract 1 a.size).size) = BL (a.extract 2 a.size) := by
    unfold BL
    rw [BL_map, BL_map, show ((a.extract 1 a.size).extract 1 (a.extract 1 a.size).size).size = a.size - 2 by rw [ext_size, ext_size]; omega, ext_size a 2]
    apply List.map_congr_left
    intro i hi
    have hi' := List.mem_range.1 hi
    have s1 : a.size - 1 = (a.extract 1 a.size).size := (ext_size a 1).symm
    rw [bt_extract (a.extract 1 a.size) 1 i (by rw [← s1]; omega), bt_extract a 1 (i + 1) (by omega), bt_extract a 2 i (by omega)]
  rw [this]
theorem min3 (p q r : Nat) : min (min r p) q = min (min p q) r := by omega
theorem one_more (p : Nat) (h : (p : Int) ≤ 1000000) : wrap64 (1 + (p : Int)) = ((p + 1 : Nat) : Int) := by unfold wrap64; omega
theorem dst_le (a b : ByteArray) : (dst (BL a) (BL b) : Int) ≤ a.size + b.size := by
  have := dst_most (BL a) (BL b); rw [BL_len, BL_len] at this; omega
section
variable [B : Bound] (hB : B.n ≤ 1000)
theorem told_f (a b : ByteArray) (h : a.size + b.size < B.n) : cavilref34_Distance.f a b = some (dst (BL a) (BL b) : Int) := by
  unfold cavilref34_Distance.f; exact if_pos h
include hB
/-- With the first two turned, if that is less. -/
theorem turned_f (a b : ByteArray) (best : Int) (ha : 0 < a.size) (hb : 0 < b.size) (h : a.size + b.size ≤ B.n) (best' : Nat) (hbest : best = best') :
    ∃ r : Nat, cavilref34_turned.f a b best = some (r : Int) ∧
      ((∀ a' b', BL (a.extract 1 a.size) = bt b 0 :: a' → BL (b.extract 1 b.size) = bt a 0 :: b' → r = min best' (dst a' b' + 1)) ∧ ((¬ ∃ a' b', BL (a.extract 1 a.size) = bt b 0 :: a' ∧ BL (b.extract 1 b.size) = bt a 0 :: b') → r = best')) := by
  subst hbest
  unfold cavilref34_turned.f
  by_cases c1 : (a.size : Int) > 1
  · have ea := ext_ext a (by omega)
    rw [if_pos c1]
    by_cases c2 : (b.size : Int) > 1
    · have eb := ext_ext b (by omega)
      rw [if_pos c2, if_pos (by omega), if_pos (by omega)]
      by_cases c3 : bt a 0 = bt b 1
      · rw [if_pos c3, if_pos (by omega), if_pos (by omega)]
        by_cases c4 : bt a 1 = bt b 0
        · rw [if_pos c4, if_pos (by omega), if_pos (by omega), told_f _ _ (by rw [ext_size, ext_size]; omega)]
          have hd := dst_le (a.extract 2 a.size) (b.extract 2 b.size)
          rw [ext_size, ext_size] at hd
          refine ⟨min best' (dst (BL (a.extract 2 a.size)) (BL (b.extract 2 b.size)) + 1), ?_, ?_, ?_⟩
          · rw [Option.bind_some]
            rw [one_more _ (by omega), min_mn]
          · intro a' b' h1 h2
            rw [ea] at h1; rw [eb] at h2
            injection h1 with _ h1; injection h2 with _ h2
            rw [h1, h2]
          · intro hn
            exact absurd ⟨_, _, by rw [ea, c4], by rw [eb, c3]⟩ hn
        · rw [if_neg c4]
          refine ⟨best', rfl, ?_, fun _ => rfl⟩
          intro a' b' h1 h2
          rw [ea] at h1; injection h1 with h1 _; exact absurd h1 c4
      · rw [if_neg c3]
        refine ⟨best', rfl, ?_, fun _ => rfl⟩
        intro a' b' h1 h2
        rw [eb] at h2; injection h2 with h2 _; exact absurd h2.symm c3
    · rw [if_neg c2]
      refine ⟨best', rfl, ?_, fun _ => rfl⟩
      intro a' b' h1 h2
      rw [BL_nil (b.extract 1 b.size) (by rw [ext_size]; omega)] at h2; simp at h2
  · rw [if_neg c1]
    refine ⟨best', rfl, ?_, fun _ => rfl⟩
    intro a' b' h1 h2
    rw [BL_nil (a.extract 1 a.size) (by rw [ext_size]; omega)] at h1; simp at h1
theorem twin_f (a b : ByteArray) (h : a.size + b.size ≤ B.n) : cavilref34_DistanceW.f a b = some (dst (BL a) (BL b) : Int) := by
  unfold cavilref34_DistanceW.f
  by_cases ca : (a.size : Int) = 0
  · rw [if_pos ca, BL_nil a (by omega), dst_nil, BL_len]
  rw [if_neg ca]
  by_cases cb : (b.size : Int) = 0
  · rw [if_pos cb, BL_nil b (by omega), dst_nil', BL_len]
  rw [if_neg cb, if_pos (by omega), if_pos (by omega)]
  have i1 : 1 ≤ (a.size : Int) := by omega
  have i2 : 1 ≤ (b.size : Int) := by omega
  have i3 : 0 < a.size := by omega
  have i4 : 0 < b.size := by omega
  have ea := BL_cons a (by omega)
  have eb := BL_cons b (by omega)
  have d1 := dst_le (a.extract 1 a.size) (b.extract 1 b.size)
  have d2 := dst_le (a.extract 1 a.size) b
  have d3 := dst_le a (b.extract 1 b.size)
  rw [ext_size] at d1 d2 d3
  rw [ext_size] at d1
  have f1 := told_f (a.extract 1 a.size) (b.extract 1 b.size) (by rw [ext_size, ext_size]; omega)
  have f2 := told_f (a.extract 1 a.size) b (by rw [ext_size]; omega)
  have f3 := told_f a (b.extract 1 b.size) (by rw [ext_size]; omega)
  have step := dst_cons (bt a 0) (bt b 0) (BL (a.extract 1 a.size)) (BL (b.extract 1 b.size))
  rw [← ea, ← eb] at step
  obtain ⟨p, hp⟩ : ∃ p, p = dst (BL (a.extract 1 a.size)) (BL b) := ⟨_, rfl⟩
  obtain ⟨q, hq⟩ : ∃ q, q = dst (BL a) (BL (b.extract 1 b.size)) := ⟨_, rfl⟩
  obtain ⟨r, hr⟩ : ∃ r, r = dst (BL (a.extract 1 a.size)) (BL (b.extract 1 b.size)) := ⟨_, rfl⟩
  rw [← hp] at d2 f2 step
  rw [← hq] at d3 f3 step
  rw [← hr] at d1 f1 step
  have wp := one_more p (by omega)
  have wq := one_more q (by omega)
  have wr := one_more r (by omega)
  have close : ∀ (best' : Nat) (best : Int), best = best' → best' = min (min (p + 1) (q + 1)) (r + if bt a 0 = bt b 0 then 0 else 1) → cavilref34_turned.f a b best = some (dst (BL a) (BL b) : Int) := by
    intro best' best hb1 hb2
    obtain ⟨z, z1, z2, z3⟩ := turned_f hB a b best i3 i4 h best' hb1
    rw [z1]
    by_cases t : ∃ a' b', BL (a.extract 1 a.size) = bt b 0 :: a' ∧ BL (b.extract 1 b.size) = bt a 0 :: b'
    · obtain ⟨a', b', t1, t2⟩ := t
      rw [step.1 a' b' t1 t2, z2 a' b' t1 t2, hb2]
    · rw [step.2 t, z3 t, hb2]
  by_cases c : bt a 0 = bt b 0
  · rw [if_pos c]
    have : cavilref34_same.f a b = some (dst (BL a) (BL b) : Int) := by
      unfold cavilref34_same.f
      rw [if_pos i1, if_pos i2, f1, Option.bind_some, f2, Option.bind_some, f3, Option.bind_some, wp, wq]
      rw [close (min (min r (p + 1)) (q + 1)) _ (by rw [min_mn, min_mn]) (by rw [if_pos c]; exact min3 _ _ _)]
      rfl
    rw [this]; rfl
  · rw [if_neg c, if_pos i1, if_pos i2, f1, Option.bind_some, f2, Option.bind_some, f3, Option.bind_some, wp, wq, wr]
    rw [close (min (min (r + 1) (p + 1)) (q + 1)) _ (by rw [min_mn, min_mn]) (by rw [if_neg c]; exact min3 _ _ _)]
    rfl
end
theorem told : ∀ n, n ≤ 1000 → @Told ⟨n⟩
  | 0, _ => @Told.mk ⟨0⟩ (fun a b r w h => by
      unfold cavilref34_Distance.f at h
      rw [if_neg (by show ¬ a.size + b.size < 0; omega)] at h; simp at h)
  | n + 1, hn => @Told.mk ⟨n + 1⟩ (fun a b r w h => by
      have ih := told n (by omega)
      unfold cavilref34_Distance.f at h
      by_cases c : a.size + b.size < n + 1
      · have hc : a.size + b.size < (@Bound.n ⟨n + 1⟩) := c
        rw [if_pos hc] at h
        injection h with h
        subst h
        exact @cavilref34_DistanceW.calls ⟨n⟩ ih a b _ w (@twin_f ⟨n⟩ (show n ≤ 1000 by omega) a b (show a.size + b.size ≤ n by omega))
      · have hc : ¬ a.size + b.size < (@Bound.n ⟨n + 1⟩) := c
        rw [if_neg hc] at h; simp at h)
/-- The contract of the document's Distance, at texts of fewer than a thousand bytes together. -/
theorem ref_calls (a b : ByteArray) (w : World) (h : a.size + b.size < 1000) :
    Calls Try.prog 7 #[.string a, .string b] w fun e w' => e = .returned (.int .i64 (dst (BL a) (BL b) : Int)) ∧ Below w.heap.size w w' :=
  @Told.told ⟨1000⟩ (told 1000 (Nat.le_refl _)) a b _ w (@told_f ⟨1000⟩ a b h)
end Go.Proofs.Ytfofgbiipppocaa.XR
