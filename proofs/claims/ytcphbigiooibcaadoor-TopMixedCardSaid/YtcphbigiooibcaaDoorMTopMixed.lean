/- Texts of this claim, in one. -/
import Derived.Test.YtcphbigiooibcaaDoorOw
import Derived.Test.YtcphbigiooibcaaDoorGp
import Derived.Test.YtcphbigiooibcaaDoorSf
import Derived.Deep.DeepCutAuto
import Derived.Test.YtcphbigiooibcaaDoorPo
import Derived.Deep.RegionWith
import Derived.Test.YtcphbigiooibcaaDoorSv
import Derived.Laws.OwnMore
import Derived.Test.YtcphbigiooibcaaDoorQm
namespace Go.Proofs.YtcphbigiooibcaaDoor
open Go.RowKit
set_option maxRecDepth 100000
set_option linter.unusedVariables false
set_option linter.unusedSimpArgs false
theorem okB_y {n : Int} (h : okB n = true) : 1 ≤ n ∧ n < 1013 := of_decide_eq_true h
theorem okB_n {n : Int} (h : okB n = false) : ¬ (1 ≤ n ∧ n < 1013) := of_decide_eq_false h
theorem list_sl (l : List Sp) (v : Value) (w : World) (hF : FarAt w) (hl : l.length ≤ 12) (hs : SpSl w v l) (hok : ∀ z ∈ l, Ok z) :
    Calls Tryd.prog 72 #[v] w fun e w' => e = .returned (.tuple #[.string (lsB l.length l), .nilIface]) ∧ Below w.heap.size w w' := by
  obtain ⟨a, cap, rfl, hs⟩ := hs
  cases l with
  | nil => exact list_zero a cap w
  | cons s l =>
    obtain ⟨b, off, rfl, hs'⟩ := hs (Nat.succ_pos _)
    exact list_ok (s :: l) b off cap w hF hl hs' (fun i h => hok _ (List.getElem_mem h))
theorem hashNumber_n (s : ByteArray) (n : Int) (w : World) (hs : s.size ≤ 9223372036854775807) (h : Hid (hnum s.data.toList = n)) : Calls Tryd.prog 73 #[.string s] w fun e w' => e = .returned (.int .i64 n) ∧ Below w.heap.size w w' := by
  rw [← h.out]; exact hashNumber_c s w hs
set_option maxHeartbeats 1000000 in
theorem gcheck_full (xs ks : List Int) (a1 a2 : Option Addr) (c1 c2 : Nat) (t : ByteArray) (w : World) (h : 12 < xs.length) (hm : xs.length ≤ 9223372036854775807) :
    Calls Tryd.prog 68 #[.slice a1 xs.length c1, .slice a2 ks.length c2, .string t] w fun e w' => e = .returned (.iface 113 (.int .i64 4)) ∧ Below w.heap.size w w' := by
  go_enter Tryd.func68, Tryd.ntmps68
  go_wp2
  go_ret
  exact ⟨rfl, Below.refl _ _⟩
set_option maxHeartbeats 1000000 in
theorem gcheck_shape (xs ks : List Int) (a1 a2 : Option Addr) (c1 c2 : Nat) (t : ByteArray) (w : World) (h : xs.length ≤ 12) (hm : ks.length ≤ 9223372036854775807) (hn : xs.length ≠ ks.length) :
    Calls Tryd.prog 68 #[.slice a1 xs.length c1, .slice a2 ks.length c2, .string t] w fun e w' => e = .returned (.iface 113 (.int .i64 3)) ∧ Below w.heap.size w w' := by
  have hd : decide ((12 : Int) < (xs.length : Int)) = false := by rw [decide_eq_false_iff_not]; omega
  have hd2 : ((xs.length : Int) != (ks.length : Int)) = true := by rw [bne_iff_ne]; omega
  go_enter Tryd.func68, Tryd.ntmps68
  go_wp2
  go_ret
  exact ⟨rfl, Below.refl _ _⟩
set_option maxHeartbeats 4000000 in
theorem gcheck_core (xs ks : List Int) (a1 a2 : Option Addr) (c1 c2 : Nat) (t : ByteArray) (w : World) (h : xs.length ≤ 12) (hn : ks.length = xs.length) (hz : t.size ≤ 140737488351232)
    (h1 : 0 < xs.length → ∃ b off, a1 = some ⟨b, off, none⟩ ∧ IntsAt w b off xs) (h2 : 0 < ks.length → ∃ b off, a2 = some ⟨b, off, none⟩ ∧ IntsAt w b off ks) (R : Value)
    (hbad : Hid (∀ i (h1 : i < xs.length) (h2 : i < ks.length), okB xs[i] = false ∨ okB ks[i] = false → R = .iface 113 (.int .i64 1)))
    (hend : Hid ((∀ i (h1 : i < xs.length), okB xs[i] = true) → (∀ i (h1 : i < ks.length), okB ks[i] = true) → R = if 60 < t.size then .iface 113 (.int .i64 4) else .nilIface)) :
    Calls Tryd.prog 68 #[.slice a1 xs.length c1, .slice a2 ks.length c2, .string t] w fun e w' => e = .returned R ∧ Below w.heap.size w w' := by
  have hd : decide ((12 : Int) < (xs.length : Int)) = false := by rw [decide_eq_false_iff_not]; omega
  have h1' := Lib.hid h1
  have h2' := Lib.hid h2
  have hn' := Lib.hid hn
  clear h1 h2
  rw [hn]
  clear hn
  go_enter Tryd.func68, Tryd.ntmps68
  go_wp2
  go_loopw [23] (fun i wr => ∃ n : Nat, n ≤ xs.length ∧ i = .int .i64 n ∧ (∀ i (h1 : i < xs.length), i < n → okB xs[i] = true) ∧ (∀ i (h1 : i < ks.length), i < n → okB ks[i] = true) ∧ wr = w) (fun i _ => xs.length - (intOf i).toNat)
  case atStart => exact ⟨0, Nat.zero_le _, rfl, fun i _ h => absurd h (Nat.not_lt_zero _), fun i _ h => absurd h (Nat.not_lt_zero _), rfl⟩
  case round =>
    obtain ⟨n, hn, rfl, k1, k2, rfl⟩ := hrel
    replace k1 := Lib.hid k1
    replace k2 := Lib.hid k2
    by_cases hlt : n < xs.length
    · obtain ⟨b1, o1, rfl, l1⟩ := h1'.out (by omega)
      obtain ⟨b2, o2, rfl, l2⟩ := h2'.out (by rw [hn'.out]; omega)
      have hlt2 : n < ks.length := by rw [hn'.out]; exact hlt
      have m1 := l1.c n hlt
      have m2 := l2.c n hlt2
      clear l1 l2
      cases e1 : okB xs[n] with
      | false =>
        have hb := okB_n e1
        have hR := hbad.out n hlt hlt2 (.inl e1)
        clear e1
        generalize xs[n] = x at *
        generalize ks[n] = k at *
        go_wp2_with fail
        refine (secret_n x _ hb).mono ?_; rintro e w' ⟨rfl, rfl⟩
        go_wp2
        go_ret
        exact ⟨ret_eq hR.symm, Below.refl _ _⟩
      | true =>
        have hx := okB_y e1
        cases e2 : okB ks[n] with
        | false =>
          have hb := okB_n e2
          have hR := hbad.out n hlt hlt2 (.inr e2)
          clear e1 e2
          generalize xs[n] = x at *
          generalize ks[n] = k at *
          obtain ⟨x1, x2⟩ := hx
          go_wp2_with fail
          refine (secret_y x _ x1 x2).mono ?_; rintro e w' ⟨rfl, rfl⟩
          go_wp2_with fail
          refine (secret_n k _ hb).mono ?_; rintro e w' ⟨rfl, rfl⟩
          go_wp2
          go_ret
          exact ⟨ret_eq hR.symm, Below.refl _ _⟩
        | true =>
          have hk := okB_y e2
          have e1 := Lib.hid e1
          have e2 := Lib.hid e2
          generalize hxe : xs[n] = x at *
          generalize hke : ks[n] = k at *
          replace hxe := Lib.hid hxe
          replace hke := Lib.hid hke
          obtain ⟨x1, x2⟩ := hx
          obtain ⟨y1, y2⟩ := hk
          go_wp2_with fail
          refine (secret_y x _ x1 x2).mono ?_; rintro e w' ⟨rfl, rfl⟩
          go_wp2_with fail
          refine (secret_y k _ y1 y2).mono ?_; rintro e w' ⟨rfl, rfl⟩
          go_wp2
          have j1 : ∀ i (h1 : i < xs.length), i < n + 1 → okB xs[i] = true := by
            intro i hi h
            by_cases hin : i < n
            · exact k1.out i hi hin
            · obtain rfl : i = n := by omega
              rw [hxe.out]; exact e1.out
          have j2 : ∀ i (h1 : i < ks.length), i < n + 1 → okB ks[i] = true := by
            intro i hi h
            by_cases hin : i < n
            · exact k2.out i hi hin
            · obtain rfl : i = n := by omega
              rw [hke.out]; exact e2.out
          go_roundw
          case rel => exact ⟨n + 1, by omega, by go_num, j1, j2, by first | rfl | trivial⟩
          case measure => simp [intOf]; omega
    · have hR := Lib.hid (hend.out (fun i hi => k1.out i hi (by omega)) (fun i hi => k2.out i hi (by rw [hn'.out] at hi; omega)))
      clear h1' h2'
      by_cases hs : t.size ≤ 60
      · go_wp2_with fail
        refine (text_y t _ hs).mono ?_; rintro e w' ⟨rfl, rfl⟩
        go_wp2
        go_ret
        exact ⟨ret_eq (by rw [hR.out, if_neg (by omega)]; rfl), Below.refl _ _⟩
      · have hs : 60 < t.size := by omega
        go_wp2_with fail
        refine (text_n t _ hs hz).mono ?_; rintro e w' ⟨rfl, rfl⟩
        go_wp2
        go_ret
        exact ⟨ret_eq (by rw [hR.out, if_pos hs]; rfl), Below.refl _ _⟩
theorem gcheck_e (xs ks : List Int) (v1 v2 : Value) (t : ByteArray) (E : Int) (w : World) (h1 : IntSl w v1 xs) (h2 : IntSl w v2 ks) (m1 : xs.length ≤ 9223372036854775807) (m2 : ks.length ≤ 9223372036854775807) (hz : t.size ≤ 140737488351232) (hE : Hid (groupF xs ks t.size = E)) :
    Calls Tryd.prog 68 #[v1, v2, .string t] w fun e w' => e = .returned (errV E) ∧ Below w.heap.size w w' := by
  obtain ⟨a1, c1, rfl, h1⟩ := h1
  obtain ⟨a2, c2, rfl, h2⟩ := h2
  have hE := hE.out
  unfold groupF at hE
  split at hE
  · subst hE; exact gcheck_full xs ks a1 a2 c1 c2 t w (by assumption) m1
  split at hE
  · subst hE; exact gcheck_shape xs ks a1 a2 c1 c2 t w (by omega) m2 (by assumption)
  rename_i g1 g2
  refine gcheck_core xs ks a1 a2 c1 c2 t w (by omega) (by omega) hz h1 h2 (errV E) (Lib.hid ?_) (Lib.hid ?_)
  · intro i i1 i2 hb
    have : (xs.all okB && ks.all okB) = false := by
      rcases hb with hb | hb
      · rw [not_all i1 hb]; rfl
      · rw [not_all i2 hb, Bool.and_false]
    rw [this] at hE
    subst hE; rfl
  · intro k1 k2
    rw [all_at k1, all_at k2] at hE
    simp only [Bool.and_self, if_true] at hE
    subst hE
    split <;> rfl
end Go.Proofs.YtcphbigiooibcaaDoor
namespace Go.Proofs.YtcphbigiooibcaaDoor
open Go.RowKit
set_option maxRecDepth 100000
set_option linter.unusedVariables false
set_option linter.unusedSimpArgs false
theorem take_snoc {α : Type} (l : List α) (n : Nat) (h : n < l.length) : l.take (n + 1) = l.take n ++ [l[n]] := by
  rw [List.take_add_one, List.getElem?_eq_getElem h]; rfl
set_option maxHeartbeats 4000000 in
theorem coefs_c (l : List Sp) (v : Value) (w : World) (hF : FarAt w) (hl : l.length ≤ 12) (hs : SpSl w v l) (hok : ∀ z ∈ l, Ok z) :
    Calls Tryd.prog 17 #[v] w fun e w' => ∃ v', e = .returned (.tuple #[v', .nilIface]) ∧ IntSl w' v' (cfs l) ∧ Below w.heap.size w w' := by
  have hL := fun w hF hs => list_sl l v w hF hl hs hok
  obtain ⟨a, cap, rfl, h0⟩ := hs
  have hL := Lib.hid (hL w hF ⟨a, cap, rfl, h0⟩)
  have hok' := Lib.hid hok
  have hlen := cfs_len l
  have hcf : Hid (∀ i (h : i < l.length) (h2 : i < (cfs l).length), (cfs l)[i] = hnum (lsB l.length l ++ sBytes l[i]).data.toList) := Lib.hid (fun i h _ => cfs_get l i h)
  have hz := lsB_size l.length l
  generalize hcs : cfs l = cs at *
  clear hok
  go_enter Tryd.func17, Tryd.ntmps17
  go_wp2_with fail
  refine hL.out.mono ?_; rintro e w0 ⟨rfl, hb0⟩
  clear hL
  have hs0 : Hid (0 < l.length → ∃ b off, a = some ⟨b, off, none⟩ ∧ SpotsAt w0 b off l) := Lib.hid (fun hp => by obtain ⟨b, off, e, hs⟩ := h0 hp; exact ⟨b, off, e, hs.below hb0⟩)
  clear h0 hF
  replace hb0 := Lib.hid hb0
  generalize hall : lsB l.length l = all at *
  replace hall := Lib.hid hall
  go_wp2
  go_loopw [6, 19] (fun o i wr => ∃ (n : Nat) (u : Value), n ≤ l.length ∧ i = .int .i64 n ∧ u = o ∧ wr.ownsRow w0.heap.size 3 1 u n ((cs.take n).map (Value.int .i64)) ∧ Below w0.heap.size w0 wr) (fun _ i _ => l.length - (intOf i).toNat)
  case atStart => exact ⟨0, _, Nat.zero_le _, rfl, rfl, World.ownsRow_nil _ _ _ _, Below.refl _ _⟩
  case round =>
    obtain ⟨n, u, hn, rfl, rfl, hown, hb⟩ := hrel
    replace hown := Lib.hid hown
    replace hb := Lib.hid hb
    by_cases hlt : n < l.length
    · obtain ⟨b, off, rfl, hsr⟩ := hs0.out (by omega)
      have hsr := hsr.below hb.out
      have h1 := hsr.cx n hlt
      have h2 := hsr.cy n hlt
      have h3 := hsr.cf n hlt
      have ho := hok'.out _ (List.getElem_mem hlt)
      have hc := hcf.out n hlt (by omega)
      have hsn := take_snoc cs n (by omega)
      have hz2 := sBytes_size l[n]
      rw [hc] at hsn
      have hlr := hb.out.size
      have htl : (cs.take n).length = n := by rw [List.length_take]; omega
      clear hsr hs0 hok' hcf hc
      generalize hA : l[n] = A at *
      clear hA
      obtain ⟨c, hc⟩ : ∃ c, hnum (all ++ sBytes A).data.toList = c := ⟨_, rfl⟩
      rw [hc] at hsn
      replace hsn := Lib.hid hsn
      replace hc := Lib.hid hc
      replace htl := Lib.hid htl
      go_wp2_with fail
      refine (bytesOf_c A _ ho).mono ?_; rintro e w1 ⟨rfl, hb1⟩
      have ow1 := Lib.hid (own_below (hown.out.alloc _) hb1)
      have hB1 := Lib.hid (below_seq (balloc hb.out _) hb1)
      have hs1 := hb1.size
      simp only [World.size_alloc] at hs1
      clear hown hb hb1
      go_wp2_with fail
      refine (hashNumber_n (all ++ sBytes A) c _ (by rw [ByteArray.size_append]; omega) hc).mono ?_; rintro e w2 ⟨rfl, hb2⟩
      have ow2 := Lib.hid (own_below ow1.out hb2)
      have hB2 := Lib.hid (below_seq hB1.out hb2)
      have hs2 := hb2.size
      clear ow1 hB1 hb2
      go_wp2_with (first | (at_builtin; refine wpl_append_int rfl _ _ _ rfl (by kernel_rfl) w0.heap.size _ (cs.take n) n rfl (ow2.out.alloc _) htl.out (by omega) (by simp only [World.size_alloc]; omega) w2.heap.size c rfl (by go_simp) ?_; intro v' w3 hown' hgrow hbel hloc; replace hown' := Lib.hid hown'; replace hbel := Lib.hid (hbel w0 (balloc hB2.out _)); clear hgrow hloc ow2 hB2) | fail)
      go_wp2
      go_roundw
      case rel => exact ⟨n + 1, _, by omega, by go_num, rfl, by rw [hsn.out]; exact hown'.out, hbel.out⟩
      case measure => simp [intOf]; omega
    · obtain rfl : n = l.length := by omega
      have hI : Hid (IntSl wr u cs) := Lib.hid (own_ints (by have := hown.out; rw [List.take_of_length_le (by omega)] at this; exact this) hlen.symm)
      go_wp2
      go_ret2
      exact ⟨_, rfl, hI.out, below_seq hb0.out hb.out⟩
set_option maxHeartbeats 4000000 in
theorem joint_c (us : List Int) (l : List Sp) (v : Value) (J : Sp) (w : World) (hF : FarAt w) (hl : l.length ≤ 12) (hs : SpSl w v l) (hu : Hid (l = us.map sq)) (hJ : Hid (sq (dot us (cfs l)) = J)) :
    Calls Tryd.prog 18 #[v] w fun e w' => e = .returned (.tuple #[spV J, .nilIface]) ∧ Below w.heap.size w w' := by
  have hok : ∀ z ∈ l, Ok z := by rw [hu.out]; intro z hz; obtain ⟨u, -, rfl⟩ := List.mem_map.mp hz; exact sq_ok u
  have hC := Lib.hid (fun (w : World) hF hs => coefs_c l v w hF hl hs hok)
  clear hok
  have hul : us.length = l.length := by rw [hu.out, List.length_map]
  have hue : ∀ i (h1 : i < l.length) (h2 : i < us.length), l[i] = sq us[i] := by
    intro i h1 h2
    have := hu.out
    subst this
    rw [List.getElem_map]
  replace hue := Lib.hid hue
  have hlen := cfs_len l
  have hbd := Lib.hid (cfs_bd l)
  generalize cfs l = cs at *
  obtain ⟨a, cap, rfl, h0⟩ := hs
  replace h0 := Lib.hid h0
  clear hu
  go_enter Tryd.func18, Tryd.ntmps18
  go_wp2_with fail
  refine (hC.out _ (hF.below (below_alloc _ _)) ⟨a, cap, rfl, fun hp => by obtain ⟨b, off, e, hs⟩ := h0.out hp; exact ⟨b, off, e, hs.below (below_alloc _ _)⟩⟩).mono ?_; rintro e w1 ⟨v', rfl, hi, hb1⟩
  obtain ⟨ac, cc, rfl, hi⟩ := hi
  clear hC
  have hR := Lib.hid ((SpAt.fresh w 0 0 false 23).below hb1)
  have hB1 := Lib.hid (below_seq (below_alloc w (.cells #[.int .i64 0, .int .i64 0, .bool false] 23)) hb1)
  have hF1 := Lib.hid (hF.below hB1.out)
  have h1 : Hid (0 < l.length → ∃ b off, a = some ⟨b, off, none⟩ ∧ SpotsAt w1 b off l) := Lib.hid (fun hp => by obtain ⟨b, off, e, hs⟩ := h0.out hp; exact ⟨b, off, e, hs.below hB1.out⟩)
  replace hi := Lib.hid hi
  clear h0 hF hb1
  obtain ⟨q0, q1, q2, ql⟩ := hF1.out
  go_wp2
  clear q0 q1 q2 ql
  have hO := Lib.hid (SpAt.fresh w1 0 0 true 23)
  have hB2 := Lib.hid (below_alloc w1 (.cells #[.int .i64 0, .int .i64 0, .bool true] 23))
  generalize w1.alloc (.cells #[.int .i64 0, .int .i64 0, .bool true] 23) = w2 at *
  go_loopw [21] (fun i wr => ∃ n : Nat, n ≤ l.length ∧ i = .int .i64 n ∧ SpAt wr w1.heap.size (sq (dot (us.take n) cs)) ∧ Below w1.heap.size w1 wr) (fun i _ => l.length - (intOf i).toNat)
  case atStart => exact ⟨0, Nat.zero_le _, rfl, by rw [List.take_zero, dot_nil, sq_zero]; exact hO.out, hB2.out⟩
  case round =>
    clear hO hB2
    obtain ⟨n, hn, rfl, hP, hb⟩ := hrel
    replace hP := Lib.hid hP
    replace hb := Lib.hid hb
    by_cases hlt : n < l.length
    · obtain ⟨b, off, rfl, hsr⟩ := h1.out (by omega)
      obtain ⟨bc, oc, rfl, hic⟩ := hi.out (by omega)
      have hsr := hsr.below hb.out
      have l1 := hsr.cx n hlt
      have l2 := hsr.cy n hlt
      have l3 := hsr.cf n hlt
      have hic := hic.below hb.out
      have l4 := hic.c n (by omega)
      have l5 := hic.lt
      have hA := hue.out n hlt (by omega)
      have hd := dot_snoc us cs n (by omega) (by omega)
      have hlw := hb.out.size
      have hlr := hP.out.lt
      clear hsr hic
      generalize l[n] = A at *
      generalize us[n] = u at *
      generalize cs[n] = c at *
      replace hd := Lib.hid hd
      replace hA := Lib.hid hA
      obtain ⟨C, hCe⟩ : ∃ C, sq (u * c) = C := ⟨_, rfl⟩
      obtain ⟨D, hD⟩ : ∃ D, sSum (sq (dot (us.take n) cs)) C = D := ⟨_, rfl⟩
      have oP := sq_ok (dot (us.take n) cs)
      have hDe : Hid (sq (dot (us.take (n + 1)) cs) = D) := by rw [hd.out, ← sq_add, hCe]; exact hD
      generalize sq (dot (us.take n) cs) = P at *
      have oC : Ok C := by rw [← hCe]; exact sq_ok _
      replace hCe := Lib.hid hCe
      replace hD := Lib.hid hD
      obtain ⟨p0, p1, p2, p3, p4, p5, -⟩ := hP.out
      have hFr := Lib.hid (hF1.out.below hb.out)
      have hBr := Lib.hid (below_seq hB1.out hb.out)
      go_wp2_with fail
      refine wp_region_grow_tail 8 Tryd.mixed (by kernel_rfl) ?_
      simp only [List.take_succ_cons, List.take_zero, List.drop_succ_cons, List.drop_zero]
      repeat (quiet_step (first | (go_at_call 76; exact grow_of (of_e A C u c _ (hFr.out.below (below_seq (below_alloc _ _) (Grew.h _))) hA hCe)) | (go_at_call 75; exact grow_of (sum_e P C D _ (hFr.out.below (below_seq (below_alloc _ _) (Grew.h _))) oP oC hD))))
      refine wpQuiet_nil ?_
      intro _ hw'
      obtain ⟨x, rfl⟩ := hw'
      have hx := Lib.hid (below_seq (below_alloc _ _) x.h)
      have hP2 := hP.out.below hx.out
      clear p0 p1 p2 p3 p4 p5 l1 l2 l3 l4 l5
      obtain ⟨p0, p1, p2, p3, p4, p5, p6⟩ := hP2
      go_wp2
      go_roundw
      case rel => exact ⟨n + 1, by omega, by go_num, by rw [hDe.out]; exact (hP.out.below hx.out).set3 D, set3_below (below_seq hb.out hx.out) (Nat.le_refl _)⟩
      case measure => simp [intOf]; omega
    · obtain rfl : n = l.length := by omega
      have hPJ : sq (dot (us.take l.length) cs) = J := by rw [List.take_of_length_le (by omega)]; exact hJ.out
      rw [hPJ] at hP
      obtain ⟨p0, p1, p2, p3, p4, p5, -⟩ := hP.out
      have hR2 := hR.out.below hb.out
      obtain ⟨r0, r1, r2, f0, f1, f2, -⟩ := hR2
      have hBr := Lib.hid (below_seq hB1.out hb.out)
      go_wp2
      have k := set3_cell (w := wr) (x := .int .i64 J.x) (y := .int .i64 J.y) (z := .bool J.far) r0 r1 r2
      refine bodyPost_ret (v := .tuple #[spV J, .nilIface]) (by simp [results, Tryd.results18, go_sem, k.1, k.2.1, k.2.2]) rfl ⟨rfl, set3_below hBr.out (Nat.le_refl _)⟩
end Go.Proofs.YtcphbigiooibcaaDoor
namespace Go.Proofs.YtcphbigiooibcaaDoor
open Go.RowKit
set_option maxRecDepth 100000
set_option linter.unusedVariables false
set_option linter.unusedSimpArgs false
/-- The error, as nothing or something. -/
theorem errV_0 : errV 0 = .nilIface := rfl
theorem groupF_0 {xs ks : List Int} {n : Nat} (h : groupF xs ks n = 0) : xs.length ≤ 12 ∧ ks.length = xs.length ∧ (∀ i (h : i < xs.length), 1 ≤ xs[i] ∧ xs[i] < 1013) ∧ (∀ i (h : i < ks.length), 1 ≤ ks[i] ∧ ks[i] < 1013) ∧ n ≤ 60 := by
  unfold groupF at h
  split at h
  · exact absurd h (by decide)
  split at h
  · exact absurd h (by decide)
  split at h
  · rename_i g1 g2 g3
    rw [Bool.and_eq_true] at g3
    split at h
    · exact absurd h (by decide)
    · exact ⟨by omega, by omega, fun i hi => okB_y (all_get g3.1 i hi), fun i hi => okB_y (all_get g3.2 i hi), by omega⟩
  · exact absurd h (by decide)
/-- A block of four cells, a seal's, all zero. -/
structure Z4 (w : World) (b : Nat) : Prop where
  c0 : w.cell? ⟨b, 0, none⟩ = some (.int .i64 0)
  c1 : w.cell? ⟨b, 1, none⟩ = some (.int .i64 0)
  c2 : w.cell? ⟨b, 2, none⟩ = some (.bool false)
  c3 : w.cell? ⟨b, 3, none⟩ = some (.int .i64 0)
  f0 : w.frozen? ⟨b, 0, none⟩ = false
  f1 : w.frozen? ⟨b, 1, none⟩ = false
  f2 : w.frozen? ⟨b, 2, none⟩ = false
  f3 : w.frozen? ⟨b, 3, none⟩ = false
  lt : b < w.heap.size
theorem Z4.below {w w' : World} {b : Nat} (h : Z4 w b) (hb : Below w.heap.size w w') : Z4 w' b := by
  obtain ⟨k, k'⟩ := bcell hb
  exact ⟨(k _ _ h.lt).trans h.c0, (k _ _ h.lt).trans h.c1, (k _ _ h.lt).trans h.c2, (k _ _ h.lt).trans h.c3, (k' _ _ h.lt).trans h.f0, (k' _ _ h.lt).trans h.f1, (k' _ _ h.lt).trans h.f2, (k' _ _ h.lt).trans h.f3, Nat.lt_of_lt_of_le h.lt hb.size⟩
theorem Z4.fresh (w : World) (t : TypeId) : Z4 (w.alloc (.cells #[.int .i64 0, .int .i64 0, .bool false, .int .i64 0] t)) w.heap.size := ⟨by simp, by simp, by simp, by simp, by simp, by simp, by simp, by simp, by simp⟩
theorem mul_1 {a b : Int} (h0 : 0 ≤ a) (h1 : a < 1013) (k0 : 0 ≤ b) (k1 : b < 1013) : 0 ≤ a * b ∧ a * b ≤ 1024144 :=
  ⟨Int.mul_nonneg h0 k0, Int.le_trans (Int.mul_le_mul (show a ≤ 1012 by omega) (show b ≤ 1012 by omega) k0 (by decide)) (by decide)⟩
set_option maxHeartbeats 4000000 in
theorem gsign_n (xs ks : List Int) (v1 v2 : Value) (t : ByteArray) (E : Int) (w : World) (h1 : IntSl w v1 xs) (h2 : IntSl w v2 ks) (m1 : xs.length ≤ 9223372036854775807) (m2 : ks.length ≤ 9223372036854775807) (hz : t.size ≤ 140737488351232) (hE : Hid (groupF xs ks t.size = E)) (h0 : E ≠ 0) :
    Calls Tryd.prog 15 #[v1, v2, .string t] w fun e w' => e = .returned (.tuple #[slV ⟨0, 0, false⟩ 0, .iface 113 (.int .i64 E)]) ∧ Below w.heap.size w w' := by
  have hK := Lib.hid (fun (w : World) h1 h2 => gcheck_e xs ks v1 v2 t E w h1 h2 m1 m2 hz hE)
  simp only [errV, if_neg h0] at hK
  replace h1 := Lib.hid h1
  replace h2 := Lib.hid h2
  clear hE m1 m2
  go_enter Tryd.func15, Tryd.ntmps15
  go_wp2_with fail
  refine (hK.out _ (h1.out.below (by repeat (first | exact Below.refl _ _ | refine balloc ?_ _ | refine Below.drew ?_ | refine below_drewN ?_ _ | refine below_set ?_ (by first | omega | (dsimp only; omega)) _))) (h2.out.below (by repeat (first | exact Below.refl _ _ | refine balloc ?_ _ | refine Below.drew ?_ | refine below_drewN ?_ _ | refine below_set ?_ (by first | omega | (dsimp only; omega)) _)))).mono ?_; rintro e w1 ⟨rfl, hb⟩
  obtain ⟨hc1, hf1⟩ := bcell hb
  have z1 := hb.size
  try simp only [World.size_alloc, World.size_setCell, World.size_drew] at z1
  have s1_0 : w.heap.size < w1.heap.size := by omega
  have hB1 : Below w.heap.size w w1 := below_seq (by repeat (first | exact Below.refl _ _ | refine balloc ?_ _ | refine Below.drew ?_ | refine below_drewN ?_ _ | refine below_set ?_ (by first | omega | (dsimp only; omega)) _)) hb
  clear hb
  have r0 : w1.cell? ⟨w.heap.size, 0, none⟩ = some (.int .i64 0) := by go_simp
  have r1 : w1.cell? ⟨w.heap.size, 1, none⟩ = some (.int .i64 0) := by go_simp
  have r2 : w1.cell? ⟨w.heap.size, 2, none⟩ = some (.bool false) := by go_simp
  have r3 : w1.cell? ⟨w.heap.size, 3, none⟩ = some (.int .i64 0) := by go_simp
  go_wp2
  have k := set4_cell (w := w1) (x := .int .i64 0) (y := .int .i64 0) (z := .bool false) (p := .int .i64 0) r0 r1 r2 r3
  refine bodyPost_ret (v := .tuple #[slV ⟨0, 0, false⟩ 0, .iface 113 (.int .i64 E)]) (by simp [results, Tryd.results15, go_sem, k.1, k.2.1, k.2.2.1, k.2.2.2]) rfl ⟨rfl, set4_below (by repeat (first | exact hB1 | exact Below.refl _ _ | refine balloc ?_ _ | refine Below.drew ?_ | refine below_drewN ?_ _ | refine below_set ?_ (by first | omega | (dsimp only; omega)) _)) (by omega)⟩
set_option maxHeartbeats 8000000 in
theorem gsign_e (xs ks : List Int) (v1 v2 : Value) (t : ByteArray) (l : List Sp) (J R : Sp) (c S : Int) (w : World) (hF : FarAt w) (h1 : IntSl w v1 xs) (h2 : IntSl w v2 ks) (hz : t.size ≤ 140737488351232) (hE : groupF xs ks t.size = 0)
    (hl : Hid (xs.map (fun x => sq (4 * x)) = l)) (hJ : Hid (sq (4 * dot xs (cfs l)) = J)) (hR : Hid (sq (4 * ks.sum) = R)) (hc : Hid (askN R J t.data.toList = c)) (hS : Hid ((ks.sum + c * dot xs (cfs l)) % 1013 = S)) :
    Calls Tryd.prog 15 #[v1, v2, .string t] w fun e w' => e = .returned (.tuple #[slV R S, .nilIface]) ∧ Below w.heap.size w w' := by
  obtain ⟨m1, m2, hx, hk, hz6⟩ := groupF_0 hE
  have hK := Lib.hid (fun (w : World) h1 h2 => gcheck_e xs ks v1 v2 t 0 w h1 h2 (by omega) (by omega) hz hE)
  have hll : l.length = xs.length := by rw [← hl.out, List.length_map]
  have hlu : l = (xs.map (4 * ·)).map sq := by rw [← hl.out, List.map_map]; rfl
  have hok : ∀ z ∈ l, Ok z := by rw [hlu]; intro z hz; obtain ⟨u, -, rfl⟩ := List.mem_map.mp hz; exact sq_ok u
  have hle : Hid (∀ i (h1 : i < xs.length) (h2 : i < l.length), sq (4 * xs[i]) = l[i]) := Lib.hid (by
    intro i h1 h2
    have := hl.out
    subst this
    rw [List.getElem_map])
  have hC := Lib.hid (fun (w : World) v hF hs => coefs_c l v w hF (by omega) hs hok)
  have hJc := Lib.hid (fun (w : World) v hF hs => joint_c (xs.map (4 * ·)) l v J w hF (by omega) hs hlu (by rw [dot_four]; exact hJ.out))
  have oJ : Ok J := by rw [← hJ.out]; exact sq_ok _
  have oR : Ok R := by rw [← hR.out]; exact sq_ok _
  have hcl := cfs_len l
  have hcb := Lib.hid (cfs_bd l)
  have hsb := Lib.hid (sum_bd ks hk)
  have hc0 := hnum_bd ((sBytes R).data.toList ++ ((sBytes J).data.toList ++ t.data.toList))
  rw [show hnum ((sBytes R).data.toList ++ ((sBytes J).data.toList ++ t.data.toList)) = c from hc.out] at hc0
  generalize cfs l = cs at *
  obtain ⟨a1, c1, rfl, h1⟩ := h1
  obtain ⟨a2, c2, rfl, h2⟩ := h2
  replace h1 := Lib.hid h1
  replace h2 := Lib.hid h2
  replace hx := Lib.hid hx
  replace hk := Lib.hid hk
  replace m2 := Lib.hid m2
  clear hE hok hlu hl hz
  obtain ⟨s0, s1⟩ := hsb.out ks.length (Nat.le_refl _)
  rw [List.take_length] at s0 s1
  rw [m2.out] at s1
  obtain ⟨K, hKe⟩ : ∃ K, ks.sum = K := ⟨_, rfl⟩
  rw [hKe] at s0 s1 hR hS
  replace hKe := Lib.hid hKe
  have hF' := Lib.hid hF
  go_enter Tryd.func15, Tryd.ntmps15
  go_wp2_with fail
  refine (hK.out _ ⟨a1, c1, rfl, fun hp => by obtain ⟨b, off, e, hs⟩ := h1.out hp; exact ⟨b, off, e, hs.below (below_alloc _ _)⟩⟩ ⟨a2, c2, rfl, fun hp => by obtain ⟨b, off, e, hs⟩ := h2.out hp; exact ⟨b, off, e, hs.below (below_alloc _ _)⟩⟩).mono ?_; rintro e w1 ⟨rfl, hb⟩
  rw [errV_0]
  have hq1 := Lib.hid ((Z4.fresh w 25).below hb)
  have hB1 := Lib.hid (below_seq (below_alloc w _) hb)
  have hF1 := Lib.hid (hF.below hB1.out)
  have i1 : Hid (0 < xs.length → ∃ b off, a1 = some ⟨b, off, none⟩ ∧ IntsAt w1 b off xs) := Lib.hid (fun hp => by obtain ⟨b, off, e, hs⟩ := h1.out hp; exact ⟨b, off, e, hs.below hB1.out⟩)
  have i2 : Hid (0 < ks.length → ∃ b off, a2 = some ⟨b, off, none⟩ ∧ IntsAt w1 b off ks) := Lib.hid (fun hp => by obtain ⟨b, off, e, hs⟩ := h2.out hp; exact ⟨b, off, e, hs.below hB1.out⟩)
  clear h1 h2 hF hK hb
  go_wp2
  go_loopw [9, 10, 30] (fun o s i wr => ∃ (n : Nat) (u : Value), n ≤ xs.length ∧ i = .int .i64 n ∧ s = .int .i64 ((ks.take n).sum) ∧ u = o ∧ wr.ownsRow w1.heap.size 23 3 u n (spCells (l.take n)) ∧ Below w1.heap.size w1 wr) (fun _ _ i _ => xs.length - (intOf i).toNat)
  case atStart => exact ⟨0, _, Nat.zero_le _, rfl, rfl, rfl, World.ownsRow_nil _ _ _ _, Below.refl _ _⟩
  case round =>
    obtain ⟨n, u, hn, rfl, rfl, rfl, hown, hb⟩ := hrel
    replace hown := Lib.hid hown
    replace hb := Lib.hid hb
    by_cases hlt : n < xs.length
    · obtain ⟨b1, o1, rfl, l1⟩ := i1.out (by omega)
      obtain ⟨b2, o2, rfl, l2⟩ := i2.out (by rw [m2.out]; omega)
      have hlt2 : n < ks.length := by rw [m2.out]; exact hlt
      have m3 := (l1.below hb.out).c n hlt
      have hlw := hb.out.size
      have hcell := Lib.hid (fun w' (hb' : Below w1.heap.size w1 w') => (l2.below hb').c n hlt2)
      have hsn := Lib.hid (sum_snoc ks n hlt2)
      have hln := Lib.hid (take_snoc l n (by omega))
      have hA := Lib.hid (hle.out n hlt (by omega))
      obtain ⟨y1, y2⟩ := hk.out n hlt2
      obtain ⟨g1, g2⟩ := hsb.out n (by omega)
      have htl : Hid ((l.take n).length = n) := Lib.hid (by rw [List.length_take]; omega)
      clear l1 l2
      generalize xs[n] = x at *
      generalize ks[n] = k at *
      generalize l[n] = A at *
      generalize (ks.take n).sum = s at *
      have hFr := Lib.hid (hF1.out.below hb.out)
      go_wp2_with fail
      refine (by_e x A _ hFr.out hA).mono ?_; rintro e w2 ⟨rfl, hb2⟩
      have ow2 := Lib.hid (own_below hown.out hb2)
      have hB2 := Lib.hid (below_seq hb.out hb2)
      have hs2 := hb2.size
      clear hown hb2 m3
      go_wp2_with (first | (at_builtin; refine wpl_append_spot rfl _ _ _ rfl (by kernel_rfl) w1.heap.size _ (l.take n) n rfl (ow2.out.alloc _) htl.out (by omega) (by simp only [World.size_alloc]; omega) w2.heap.size A rfl (by go_simp) (by go_simp) (by go_simp) ?_; intro v' w3 hown' hgrow hbel hloc; replace hown' := Lib.hid hown'; replace hbel := Lib.hid (hbel w1 (balloc hB2.out _)); have hc3 := hcell.out w3 hbel.out; clear hgrow hloc ow2 hB2) | fail)
      go_wp2
      go_roundw
      case rel => exact ⟨n + 1, _, by omega, by go_num, by rw [hsn.out], rfl, by rw [hln.out]; exact hown'.out, hbel.out⟩
      case measure => simp [intOf]; omega
    · obtain rfl : n = xs.length := by omega
      have hSp : Hid (SpSl wr u l) := Lib.hid (own_spots (by have := hown.out; rw [List.take_of_length_le (by omega)] at this; exact this) hll.symm)
      have hse : (ks.take xs.length).sum = K := by rw [← m2.out, List.take_length]; exact hKe.out
      rw [hse]
      have hqr := Lib.hid (hq1.out.below hb.out)
      have hFr := Lib.hid (hF1.out.below hb.out)
      have hBr := Lib.hid (below_seq hB1.out hb.out)
      have ir : Hid (0 < xs.length → ∃ b off, a1 = some ⟨b, off, none⟩ ∧ IntsAt wr b off xs) := Lib.hid (fun hp => by obtain ⟨b, off, e, hs⟩ := i1.out hp; exact ⟨b, off, e, hs.below hb.out⟩)
      clear hown hb hse i1 i2 hq1 hF1 hB1 hsb hk m2 hle hKe
      go_wp2_with fail
      refine (hC.out wr u hFr.out hSp.out).mono ?_; rintro e w2 ⟨cv, rfl, hi, hb2⟩
      have hSp2 := Lib.hid (hSp.out.below hb2)
      have hq2 := Lib.hid (hqr.out.below hb2)
      have hF2 := Lib.hid (hFr.out.below hb2)
      have hB2 := Lib.hid (below_seq hBr.out hb2)
      have i2 : Hid (0 < xs.length → ∃ b off, a1 = some ⟨b, off, none⟩ ∧ IntsAt w2 b off xs) := Lib.hid (fun hp => by obtain ⟨b, off, e, hs⟩ := ir.out hp; exact ⟨b, off, e, hs.below hb2⟩)
      obtain ⟨a3, c3, rfl, i3⟩ := hi
      replace i3 := Lib.hid i3
      clear hSp hqr hFr hBr ir hb2 hC
      go_wp2_with fail
      refine (hJc.out w2 u hF2.out hSp2.out).mono ?_; rintro e w3 ⟨rfl, hb3⟩
      have hb3 := Lib.hid hb3
      have hj := Lib.hid (SpAt.fresh w3 J.x J.y J.far 23)
      have hb3a := Lib.hid (balloc hb3.out (.cells #[.int .i64 J.x, .int .i64 J.y, .bool J.far] 23))
      clear hJc hSp2
      go_wp2_with fail
      refine (by_e K R _ (hF2.out.below hb3a.out) hR).mono ?_; rintro e w4 ⟨rfl, hb4⟩
      have hj4 := hj.out.below hb4
      have hb4 := Lib.hid (below_seq hb3a.out hb4)
      obtain ⟨j0, j1, j2, -, -, -, jl⟩ := hj4
      have hr := Lib.hid (SpAt.fresh w4 R.x R.y R.far 23)
      have hb4a := Lib.hid (balloc hb4.out (.cells #[.int .i64 R.x, .int .i64 R.y, .bool R.far] 23))
      clear hj hb3 hb3a
      go_wp2_with fail
      refine (ask_e R J t c _ oR oJ hz6 hc).mono ?_; rintro e w5 ⟨rfl, hb5⟩
      have hr5 := Lib.hid (hr.out.below hb5)
      have hb5 := Lib.hid (below_seq hb4a.out hb5)
      have hq5 := Lib.hid (hq2.out.below hb5.out)
      have hB5 := Lib.hid (below_seq hB2.out hb5.out)
      have i5 : Hid (0 < xs.length → ∃ b off, a1 = some ⟨b, off, none⟩ ∧ IntsAt w5 b off xs) := Lib.hid (fun hp => by obtain ⟨b, off, e, hs⟩ := i2.out hp; exact ⟨b, off, e, hs.below hb5.out⟩)
      have i6 : Hid (0 < cs.length → ∃ b off, a3 = some ⟨b, off, none⟩ ∧ IntsAt w5 b off cs) := Lib.hid (fun hp => by obtain ⟨b, off, e, hs⟩ := i3.out hp; exact ⟨b, off, e, hs.below hb5.out⟩)
      clear hr hb4 hb4a hb5 hq2 hB2 i2 i3 hF2 j0 j1 j2 jl oR oJ
      go_wp2
      go_loopw [10, 73] (fun s i wr => ∃ (n : Nat) (m : Int), n ≤ xs.length ∧ i = .int .i64 n ∧ s = .int .i64 m ∧ 0 ≤ m ∧ m ≤ 12144 ∧ m % 1013 = (K + c * dot (xs.take n) cs) % 1013 ∧ wr = w5) (fun _ i _ => xs.length - (intOf i).toNat)
      case atStart => exact ⟨0, K, Nat.zero_le _, rfl, rfl, s0, by omega, by rw [List.take_zero, dot_nil, Int.mul_zero, Int.add_zero], rfl⟩
      case round =>
        obtain ⟨n, m, hn, rfl, rfl, m0, m4, hm, hwr⟩ := hrel
        subst hwr
        replace hm := Lib.hid hm
        by_cases hlt : n < xs.length
        · obtain ⟨b1, o1, rfl, l1⟩ := i5.out (by omega)
          obtain ⟨b3, o3, rfl, l3⟩ := i6.out (by omega)
          have k1 := l1.c n hlt
          have k3 := l3.c n (by omega)
          obtain ⟨x1, x2⟩ := hx.out n hlt
          obtain ⟨d1, d2⟩ := hcb.out n (by omega)
          have hd := Lib.hid (dot_snoc xs cs n hlt (by omega))
          clear l1 l3
          generalize xs[n] = x at *
          generalize cs[n] = d at *
          obtain ⟨g1, g2⟩ := mul_1 hc0.1 hc0.2 d1 d2
          have g3 : 0 ≤ c * d % 1013 ∧ c * d % 1013 < 1013 := by omega
          obtain ⟨g4, g5⟩ := mul_1 g3.1 g3.2 (show 0 ≤ x by omega) x2
          have e1 : IntKind.i64.wrap (c * d) = c * d := IntWalk.i64_in _ (by omega)
          have e2 : (c * d).tmod 1013 = c * d % 1013 := Int.tmod_eq_emod_of_nonneg g1
          have e3 : IntKind.i64.wrap (c * d % 1013 * x) = c * d % 1013 * x := IntWalk.i64_in _ (by omega)
          have e4 : IntKind.i64.wrap (m + c * d % 1013 * x) = m + c * d % 1013 * x := IntWalk.i64_in _ (by omega)
          have e5 : (m + c * d % 1013 * x).tmod 1013 = (m + c * d % 1013 * x) % 1013 := Int.tmod_eq_emod_of_nonneg (by omega)
          have hm2 := Lib.hid (turn_go (x := x) (c := d) hm.out)
          go_wp2
          go_roundw
          case rel => exact ⟨n + 1, _, by omega, by go_num, rfl, by omega, by omega, by rw [Int.emod_emod_of_dvd _ (Int.dvd_refl _), hm2.out, hd.out], by first | rfl | trivial⟩
          case measure => simp [intOf]; omega
        · obtain rfl : n = xs.length := by omega
          have hms : m.tmod 1013 = S := by rw [Int.tmod_eq_emod_of_nonneg m0, hm.out, List.take_length]; exact hS.out
          obtain ⟨r0, r1, r2, r3, f0, f1, f2, f3, fl⟩ := hq5.out
          obtain ⟨k0, k1, k2, -, -, -, kl⟩ := hr5.out
          clear hm hx hcb
          go_wp2
          have k := set4_cell (w := wr) (x := .int .i64 R.x) (y := .int .i64 R.y) (z := .bool R.far) (p := .int .i64 S) r0 r1 r2 r3
          refine bodyPost_ret (v := .tuple #[slV R S, .nilIface]) (by simp [results, Tryd.results15, go_sem, k.1, k.2.1, k.2.2.1, k.2.2.2]) rfl ⟨rfl, set4_below hB5.out (Nat.le_refl _)⟩
end Go.Proofs.YtcphbigiooibcaaDoor
namespace Go.Proofs.YtcphbigiooibcaaDoor
open Go.RowKit
set_option maxRecDepth 100000
set_option linter.unusedVariables false
set_option linter.unusedSimpArgs false
/-- Strings that lie in a row. -/
structure StrsAt (w : World) (b off : Nat) (l : List ByteArray) : Prop where
  lt : b < w.heap.size
  c : ∀ i (h : i < l.length), w.cell? ⟨b, off + i, none⟩ = some (.string l[i])
theorem StrsAt.below {w w' : World} {b off : Nat} {l : List ByteArray} (h : StrsAt w b off l) (hb : Below w.heap.size w w') : StrsAt w' b off l :=
  ⟨Nat.lt_of_lt_of_le h.lt hb.size, fun i hi => (hb.cell (p := ⟨b, off + i, none⟩) h.lt).trans (h.c i hi)⟩
/-- A value that is a slice of these strings. -/
def StrSl (w : World) (v : Value) (l : List ByteArray) : Prop := ∃ a cap, v = .slice a l.length cap ∧ (0 < l.length → ∃ b off, a = some ⟨b, off, none⟩ ∧ StrsAt w b off l)
theorem StrSl.below {w w' : World} {v : Value} {l : List ByteArray} (h : StrSl w v l) (hb : Below w.heap.size w w') : StrSl w' v l := by
  obtain ⟨a, cap, rfl, h⟩ := h
  exact ⟨a, cap, rfl, fun h0 => by obtain ⟨b, off, e, hs⟩ := h h0; exact ⟨b, off, e, hs.below hb⟩⟩
/-- Seals that lie in a row. -/
structure SlsAt (w : World) (b off : Nat) (l : List (Sp × Int)) : Prop where
  lt : b < w.heap.size
  cx : ∀ i (h : i < l.length), w.cell? ⟨b, off + i * 4, none⟩ = some (.int .i64 l[i].1.x)
  cy : ∀ i (h : i < l.length), w.cell? ⟨b, off + i * 4 + 1, none⟩ = some (.int .i64 l[i].1.y)
  cf : ∀ i (h : i < l.length), w.cell? ⟨b, off + i * 4 + 2, none⟩ = some (.bool l[i].1.far)
  cs : ∀ i (h : i < l.length), w.cell? ⟨b, off + i * 4 + 3, none⟩ = some (.int .i64 l[i].2)
theorem SlsAt.below {w w' : World} {b off : Nat} {l : List (Sp × Int)} (h : SlsAt w b off l) (hb : Below w.heap.size w w') : SlsAt w' b off l :=
  ⟨Nat.lt_of_lt_of_le h.lt hb.size, fun i hi => (hb.cell (p := ⟨b, off + i * 4, none⟩) h.lt).trans (h.cx i hi), fun i hi => (hb.cell (p := ⟨b, off + i * 4 + 1, none⟩) h.lt).trans (h.cy i hi), fun i hi => (hb.cell (p := ⟨b, off + i * 4 + 2, none⟩) h.lt).trans (h.cf i hi), fun i hi => (hb.cell (p := ⟨b, off + i * 4 + 3, none⟩) h.lt).trans (h.cs i hi)⟩
/-- A value that is a slice of these seals. -/
def SlSl (w : World) (v : Value) (l : List (Sp × Int)) : Prop := ∃ a cap, v = .slice a l.length cap ∧ (0 < l.length → ∃ b off, a = some ⟨b, off, none⟩ ∧ SlsAt w b off l)
theorem SlSl.below {w w' : World} {v : Value} {l : List (Sp × Int)} (h : SlSl w v l) (hb : Below w.heap.size w w') : SlSl w' v l := by
  obtain ⟨a, cap, rfl, h⟩ := h
  exact ⟨a, cap, rfl, fun h0 => by obtain ⟨b, off, e, hs⟩ := h h0; exact ⟨b, off, e, hs.below hb⟩⟩
/-- A seal to be looked at, and what is left of it (so many times the base's fourth). -/
structure It where
  key : Sp
  t : ByteArray
  R : Sp
  S : Int
  e : Int
def It.ok (x : It) : Prop := ∃ a r, x.key = sq a ∧ x.R = sq r ∧ x.e = 4 * x.S + -(r + a * askN x.R x.key x.t.data.toList) ∧ x.t.size ≤ 60 ∧ 0 ≤ x.S ∧ x.S < 1013
theorem boff_e (key R Z : Sp) (t : ByteArray) (S e : Int) (w : World) (hF : FarAt w) (h : Hid (It.ok ⟨key, t, R, S, e⟩)) (hZ : Hid (sq e = Z)) :
    Calls Tryd.prog 79 #[spV key, .string t, slV R S] w fun e w' => e = .returned (spV Z) ∧ Below w.heap.size w w' := by
  obtain ⟨a, r, ha, hr, he, hz, s0, s1⟩ := h.out
  simp only at ha hr he hz s0 s1
  have oR : Ok R := ok_of hr
  have oK : Ok key := ok_of ha
  refine sealOff_ok key R _ _ (sq (r + a * askN R key t.data.toList)) _ Z a _ S t w hF oK oR hz rfl ha rfl rfl ?_ rfl ?_ (sq_ok _) (sq_ok _) (sq_ok _) (turned_ok (sq_ok _)).1
  · show _ = _; rw [hr, sq_add]
  · show _ = _; rw [sq_neg, sq_add, ← hZ.out, he]
theorem chk_e (key R : Sp) (t : ByteArray) (S e : Int) (w : World) (hF : FarAt w) (h : Hid (It.ok ⟨key, t, R, S, e⟩)) :
    Calls Tryd.prog 78 #[spV key, .string t, slV R S] w fun e w' => e = .returned .nilIface ∧ Below w.heap.size w w' := by
  obtain ⟨a, r, ha, hr, he, hz, s0, s1⟩ := h.out
  exact sealCheck_ok key R S t w hF (ok_of ha) (ok_of hr) hz s0 s1
theorem vfy_e (key R : Sp) (t : ByteArray) (S e : Int) (b : Bool) (w : World) (hF : FarAt w) (h : Hid (It.ok ⟨key, t, R, S, e⟩)) (hb : Hid ((sq e).far = b)) :
    Calls Tryd.prog 20 #[spV key, .string t, slV R S] w fun e w' => e = .returned (.tuple #[.bool b, .nilIface]) ∧ Below w.heap.size w w' := by
  obtain ⟨a, r, ha, hr, he, hz, s0, s1⟩ := h.out
  simp only at ha hr he hz s0 s1
  exact verify_e key R a r _ S b t w hF hz s0 s1 ha hr rfl (by rw [← he]; exact hb)
set_option maxHeartbeats 1000000 in
theorem bready_e (n : Nat) (a1 a2 a3 : Option Addr) (c1 c2 c3 : Nat) (w : World) (h : n ≤ 12) :
    Calls Tryd.prog 80 #[.slice a1 n c1, .slice a2 n c2, .slice a3 n c3] w fun e w' => e = .returned .nilIface ∧ Below w.heap.size w w' := by
  have hd : decide ((12 : Int) < (n : Int)) = false := by rw [decide_eq_false_iff_not]; omega
  go_enter Tryd.func80, Tryd.ntmps80
  go_wp2
  go_ret
  exact ⟨rfl, Below.refl _ _⟩
set_option maxHeartbeats 8000000 in
theorem bverify_e (L : List It) (ws : List Int) (v1 v2 v3 v4 : Value) (B : Bool) (w : World) (hF : FarAt w) (hl : L.length ≤ 12) (hw : ws.length = L.length) (hok : ∀ i (h : i < L.length), It.ok L[i]) (hwo : ∀ i (h : i < ws.length), 1 ≤ ws[i] ∧ ws[i] < 1013)
    (h1 : SpSl w v1 (L.map (·.key))) (h2 : StrSl w v2 (L.map (·.t))) (h3 : SlSl w v3 (L.map fun x => (x.R, x.S))) (h4 : IntSl w v4 ws) (hB : Hid ((sq (dot (L.map (·.e)) ws)).far = B)) :
    Calls Tryd.prog 21 #[v1, v2, v3, v4] w fun e w' => e = .returned (.tuple #[.bool B, .nilIface]) ∧ Below w.heap.size w w' := by
  obtain ⟨a1, c1, rfl, h1⟩ := h1
  obtain ⟨a2, c2, rfl, h2⟩ := h2
  obtain ⟨a3, c3, rfl, h3⟩ := h3
  obtain ⟨a4, c4, rfl, h4⟩ := h4
  rw [hw]
  simp only [List.length_map] at h1 h2 h3 ⊢
  have hE := Lib.hid (fun n (h : n < L.length) => dot_snoc (L.map (·.e)) ws n (by simpa using h) (by omega))
  replace hok := Lib.hid hok
  replace hwo := Lib.hid hwo
  replace hw := Lib.hid hw
  replace h1 := Lib.hid h1
  replace h2 := Lib.hid h2
  replace h3 := Lib.hid h3
  replace h4 := Lib.hid h4
  replace hF := Lib.hid hF
  go_enter Tryd.func21, Tryd.ntmps21
  go_wp2_with fail
  refine (bready_e L.length a1 a2 a3 c1 c2 c3 w hl).mono ?_; rintro e w1 ⟨rfl, hb1⟩
  have hB1 := Lib.hid hb1
  have hF1 := Lib.hid (hF.out.below hb1)
  have i1 := Lib.hid (fun hp => by obtain ⟨b, off, e, hs⟩ := h1.out hp; exact (⟨b, off, e, hs.below hb1⟩ : ∃ b off, a1 = some ⟨b, off, none⟩ ∧ SpotsAt w1 b off (L.map (·.key))))
  have i2 := Lib.hid (fun hp => by obtain ⟨b, off, e, hs⟩ := h2.out hp; exact (⟨b, off, e, hs.below hb1⟩ : ∃ b off, a2 = some ⟨b, off, none⟩ ∧ StrsAt w1 b off (L.map (·.t))))
  have i3 := Lib.hid (fun hp => by obtain ⟨b, off, e, hs⟩ := h3.out hp; exact (⟨b, off, e, hs.below hb1⟩ : ∃ b off, a3 = some ⟨b, off, none⟩ ∧ SlsAt w1 b off (L.map fun x => (x.R, x.S))))
  have i4 := Lib.hid (fun hp => by obtain ⟨b, off, e, hs⟩ := h4.out hp; exact (⟨b, off, e, hs.below hb1⟩ : ∃ b off, a4 = some ⟨b, off, none⟩ ∧ IntsAt w1 b off ws))
  clear h1 h2 h3 h4 hF hb1
  obtain ⟨q0, q1, q2, ql⟩ := hF1.out
  go_wp2
  clear q0 q1 q2 ql
  have hO := Lib.hid (SpAt.fresh w1 0 0 true 23)
  have hB2 := Lib.hid (below_alloc w1 (.cells #[.int .i64 0, .int .i64 0, .bool true] 23))
  generalize w1.alloc (.cells #[.int .i64 0, .int .i64 0, .bool true] 23) = w2 at *
  go_loopw [31] (fun i wr => ∃ n : Nat, n ≤ L.length ∧ i = .int .i64 n ∧ SpAt wr w1.heap.size (sq (dot ((L.map (·.e)).take n) ws)) ∧ Below w1.heap.size w1 wr) (fun i _ => L.length - (intOf i).toNat)
  case atStart => exact ⟨0, Nat.zero_le _, rfl, by rw [List.take_zero, dot_nil, sq_zero]; exact hO.out, hB2.out⟩
  case round =>
    clear hO hB2
    obtain ⟨n, hn, rfl, hP, hb⟩ := hrel
    replace hP := Lib.hid hP
    replace hb := Lib.hid hb
    by_cases hlt : n < L.length
    · obtain ⟨b1, o1, rfl, l1⟩ := i1.out (by simpa using (by omega : 0 < L.length))
      obtain ⟨b2, o2, rfl, l2⟩ := i2.out (by simpa using (by omega : 0 < L.length))
      obtain ⟨b3, o3, rfl, l3⟩ := i3.out (by simpa using (by omega : 0 < L.length))
      obtain ⟨b4, o4, rfl, l4⟩ := i4.out (by omega)
      have hd := hE.out n hlt
      have hok1 := hok.out n hlt
      obtain ⟨y1, y2⟩ := hwo.out n (by rw [hw.out]; exact hlt)
      have l1 := Lib.hid l1
      have l2 := Lib.hid l2
      have l3 := Lib.hid l3
      have l4 := Lib.hid l4
      have hA : Hid (∀ w', Below w1.heap.size w1 w' → w'.cell? ⟨b1, o1 + n * 3, none⟩ = some (.int .i64 L[n].key.x) ∧ w'.cell? ⟨b1, o1 + n * 3 + 1, none⟩ = some (.int .i64 L[n].key.y) ∧ w'.cell? ⟨b1, o1 + n * 3 + 2, none⟩ = some (.bool L[n].key.far) ∧
          w'.cell? ⟨b2, o2 + n, none⟩ = some (.string L[n].t) ∧ w'.cell? ⟨b3, o3 + n * 4, none⟩ = some (.int .i64 L[n].R.x) ∧ w'.cell? ⟨b3, o3 + n * 4 + 1, none⟩ = some (.int .i64 L[n].R.y) ∧ w'.cell? ⟨b3, o3 + n * 4 + 2, none⟩ = some (.bool L[n].R.far) ∧ w'.cell? ⟨b3, o3 + n * 4 + 3, none⟩ = some (.int .i64 L[n].S) ∧
          w'.cell? ⟨b4, o4 + n, none⟩ = some (.int .i64 (ws[n]'(by rw [hw.out]; exact hlt))) ∧ b1 < w'.heap.size ∧ b2 < w'.heap.size ∧ b3 < w'.heap.size ∧ b4 < w'.heap.size) := Lib.hid (fun w' hb => by
        have k1 := l1.out.below hb
        have k2 := l2.out.below hb
        have k3 := l3.out.below hb
        have k4 := l4.out.below hb
        have e1 := k1.cx n (by simpa using hlt)
        have e2 := k1.cy n (by simpa using hlt)
        have e3 := k1.cf n (by simpa using hlt)
        have e4 := k2.c n (by simpa using hlt)
        have e5 := k3.cx n (by simpa using hlt)
        have e6 := k3.cy n (by simpa using hlt)
        have e7 := k3.cf n (by simpa using hlt)
        have e8 := k3.cs n (by simpa using hlt)
        have e9 := k4.c n (by rw [hw.out]; exact hlt)
        simp only [List.getElem_map] at e1 e2 e3 e4 e5 e6 e7 e8 e9
        exact ⟨e1, e2, e3, e4, e5, e6, e7, e8, e9, k1.lt, k2.lt, k3.lt, k4.lt⟩)
      rw [List.getElem_map] at hd
      clear l1 l2 l3 l4
      generalize L[n] = I at *
      obtain ⟨A, t, R, S, f⟩ := I
      simp only at hA hd y1 y2
      generalize ws[n] = c at *
      replace hok1 := Lib.hid hok1
      obtain ⟨Z, hZ⟩ : ∃ Z, sq f = Z := ⟨_, rfl⟩
      obtain ⟨C, hC⟩ : ∃ C, sq (f * c) = C := ⟨_, rfl⟩
      obtain ⟨D, hD⟩ : ∃ D, sSum (sq (dot ((L.map (·.e)).take n) ws)) C = D := ⟨_, rfl⟩
      have oP := sq_ok (dot ((L.map (·.e)).take n) ws)
      have hDe : Hid (sq (dot ((L.map (·.e)).take (n + 1)) ws) = D) := Lib.hid (by rw [hd, ← sq_add, hC]; exact hD)
      clear hd
      generalize sq (dot ((L.map (·.e)).take n) ws) = P at *
      have oC : Ok C := by rw [← hC]; exact sq_ok _
      replace hZ := Lib.hid hZ
      replace hC := Lib.hid hC
      replace hD := Lib.hid hD
      have hZ' := Lib.hid hZ.out.symm
      obtain ⟨e1, e2, e3, e4, e5, e6, e7, e8, e9, g1, g2, g3, g4⟩ := hA.out wr hb.out
      have hFr := Lib.hid (hF1.out.below hb.out)
      go_wp2_with fail
      refine wp_region_grow Tryd.mixed (by kernel_rfl) ?_
      repeat (quiet_step ((go_at_call 78; exact grow_of (chk_e A R t S f _ (hFr.out.below (below_seq (below_alloc _ _) (Grew.h _))) hok1))))
      refine wpQuiet_nil ?_
      intro _ hw'
      obtain ⟨x, rfl⟩ := hw'
      clear e1 e2 e3 e4 e5 e6 e7 e8 e9 g1 g2 g3 g4
      have hx := Lib.hid (below_seq (below_alloc _ _) x.h)
      have hk := (SpAt.fresh wr A.x A.y A.far 23).below x.h
      have hby := Lib.hid (below_seq hb.out hx.out)
      have hPy := Lib.hid (hP.out.below hx.out)
      have hFy := Lib.hid (hFr.out.below hx.out)
      have zy := hx.out.size
      obtain ⟨e1, e2, e3, e4, e5, e6, e7, e8, e9, g1, g2, g3, g4⟩ := hA.out _ hby.out
      obtain ⟨k0, k1, k2, -, -, -, kl⟩ := hk
      clear hA hFr hP hx hb
      generalize hyw : x.w = y at *
      clear hyw x
      go_wp2_with fail
      refine (secret_y c _ y1 y2).mono ?_; rintro e w' ⟨rfl, rfl⟩
      obtain ⟨p0, p1, p2, p3, p4, p5, pl⟩ := hPy.out
      go_wp2_with fail
      refine wp_region_grow_tail 17 Tryd.mixed (by kernel_rfl) ?_
      simp only [List.take_succ_cons, List.take_zero, List.drop_succ_cons, List.drop_zero]
      repeat (quiet_step (first | (go_at_call 79; exact grow_of (boff_e A R Z t S f _ (hFy.out.below (Grew.h _)) hok1 hZ)) | (go_at_call 76; exact grow_of (of_e Z C f c _ (hFy.out.below (Grew.h _)) hZ' hC)) | (go_at_call 75; exact grow_of (sum_e P C D _ (hFy.out.below (Grew.h _)) oP oC hD))))
      refine wpQuiet_nil ?_
      intro _ hw'
      obtain ⟨x, rfl⟩ := hw'
      have hx := Lib.hid x.h
      have hP2 := hPy.out.below hx.out
      clear p0 p1 p2 p3 p4 p5 pl e1 e2 e3 e4 e5 e6 e7 e8 e9
      obtain ⟨p0, p1, p2, p3, p4, p5, p6⟩ := hP2
      go_wp2
      go_roundw
      case rel => exact ⟨n + 1, by omega, by go_num, by rw [hDe.out]; exact (hPy.out.below hx.out).set3 D, set3_below (below_seq hby.out hx.out) (Nat.le_refl _)⟩
      case measure => simp [intOf]; omega
    · obtain rfl : n = L.length := by omega
      have hPJ : (L.map (·.e)).take L.length = L.map (·.e) := List.take_of_length_le (by simp)
      rw [hPJ] at hP
      obtain ⟨J, hJ⟩ : ∃ J, sq (dot (L.map (·.e)) ws) = J := ⟨_, rfl⟩
      rw [hJ] at hP hB
      obtain ⟨p0, p1, p2, -, -, -, -⟩ := hP.out
      rw [hB.out] at p2
      clear hPJ hJ
      have hBr := Lib.hid (below_seq hB1.out hb.out)
      go_wp2
      go_ret2
      exact ⟨rfl, hBr.out⟩
end Go.Proofs.YtcphbigiooibcaaDoor
namespace Go.Proofs.YtcphbigiooibcaaDoor
open Go.RowKit
set_option maxRecDepth 100000
set_option linter.unusedVariables false
set_option linter.unusedSimpArgs false
/-- The places of those that are not right. -/
def wrongs (es : List Int) : Nat → List Int
  | 0 => []
  | n + 1 => if (sq (es.getD n 0)).far then wrongs es n else wrongs es n ++ [(n : Int)]
theorem wrongs_len (es : List Int) : ∀ n, (wrongs es n).length ≤ n
  | 0 => Nat.le_refl _
  | n + 1 => by
    have := wrongs_len es n
    unfold wrongs
    split <;> simp <;> omega
set_option maxHeartbeats 8000000 in
theorem bwrong_e (L : List It) (v1 v2 v3 : Value) (w : World) (hF : FarAt w) (hl : L.length ≤ 12) (hok : ∀ i (h : i < L.length), It.ok L[i])
    (h1 : SpSl w v1 (L.map (·.key))) (h2 : StrSl w v2 (L.map (·.t))) (h3 : SlSl w v3 (L.map fun x => (x.R, x.S))) :
    Calls Tryd.prog 23 #[v1, v2, v3] w fun e w' => ∃ v', e = .returned (.tuple #[v', .nilIface]) ∧ IntSl w' v' (wrongs (L.map (·.e)) L.length) ∧ Below w.heap.size w w' := by
  obtain ⟨a1, c1, rfl, h1⟩ := h1
  obtain ⟨a2, c2, rfl, h2⟩ := h2
  obtain ⟨a3, c3, rfl, h3⟩ := h3
  simp only [List.length_map] at h1 h2 h3 ⊢
  have hE := Lib.hid (fun n (h : n < L.length) => (show (L.map (·.e)).getD n 0 = L[n].e by simp [h]))
  have hwl := Lib.hid (wrongs_len (L.map (·.e)))
  replace hok := Lib.hid hok
  replace h1 := Lib.hid h1
  replace h2 := Lib.hid h2
  replace h3 := Lib.hid h3
  replace hF := Lib.hid hF
  go_enter Tryd.func23, Tryd.ntmps23
  go_wp2_with fail
  refine (bready_e L.length a1 a2 a3 c1 c2 c3 w hl).mono ?_; rintro e w1 ⟨rfl, hb1⟩
  have hB1 := Lib.hid hb1
  have hF1 := Lib.hid (hF.out.below hb1)
  have i1 := Lib.hid (fun hp => by obtain ⟨b, off, e, hs⟩ := h1.out hp; exact (⟨b, off, e, hs.below hb1⟩ : ∃ b off, a1 = some ⟨b, off, none⟩ ∧ SpotsAt w1 b off (L.map (·.key))))
  have i2 := Lib.hid (fun hp => by obtain ⟨b, off, e, hs⟩ := h2.out hp; exact (⟨b, off, e, hs.below hb1⟩ : ∃ b off, a2 = some ⟨b, off, none⟩ ∧ StrsAt w1 b off (L.map (·.t))))
  have i3 := Lib.hid (fun hp => by obtain ⟨b, off, e, hs⟩ := h3.out hp; exact (⟨b, off, e, hs.below hb1⟩ : ∃ b off, a3 = some ⟨b, off, none⟩ ∧ SlsAt w1 b off (L.map fun x => (x.R, x.S))))
  clear h1 h2 h3 hF hb1
  go_wp2
  go_loopw [9, 23] (fun o i wr => ∃ (n : Nat) (u : Value), n ≤ L.length ∧ i = .int .i64 n ∧ u = o ∧ wr.ownsRow w1.heap.size 3 1 u (wrongs (L.map (·.e)) n).length ((wrongs (L.map (·.e)) n).map (Value.int .i64)) ∧ Below w1.heap.size w1 wr) (fun _ i _ => L.length - (intOf i).toNat)
  case atStart => exact ⟨0, _, Nat.zero_le _, rfl, rfl, World.ownsRow_nil _ _ _ _, Below.refl _ _⟩
  case round =>
    obtain ⟨n, u, hn, rfl, rfl, hown, hb⟩ := hrel
    replace hown := Lib.hid hown
    replace hb := Lib.hid hb
    by_cases hlt : n < L.length
    · obtain ⟨b1, o1, rfl, l1⟩ := i1.out (by simpa using (by omega : 0 < L.length))
      obtain ⟨b2, o2, rfl, l2⟩ := i2.out (by simpa using (by omega : 0 < L.length))
      obtain ⟨b3, o3, rfl, l3⟩ := i3.out (by simpa using (by omega : 0 < L.length))
      have hd := hE.out n hlt
      have hok1 := hok.out n hlt
      have hw1 := hwl.out n
      have l1 := Lib.hid l1
      have l2 := Lib.hid l2
      have l3 := Lib.hid l3
      have hA : Hid (∀ w', Below w1.heap.size w1 w' → w'.cell? ⟨b1, o1 + n * 3, none⟩ = some (.int .i64 L[n].key.x) ∧ w'.cell? ⟨b1, o1 + n * 3 + 1, none⟩ = some (.int .i64 L[n].key.y) ∧ w'.cell? ⟨b1, o1 + n * 3 + 2, none⟩ = some (.bool L[n].key.far) ∧
          w'.cell? ⟨b2, o2 + n, none⟩ = some (.string L[n].t) ∧ w'.cell? ⟨b3, o3 + n * 4, none⟩ = some (.int .i64 L[n].R.x) ∧ w'.cell? ⟨b3, o3 + n * 4 + 1, none⟩ = some (.int .i64 L[n].R.y) ∧ w'.cell? ⟨b3, o3 + n * 4 + 2, none⟩ = some (.bool L[n].R.far) ∧ w'.cell? ⟨b3, o3 + n * 4 + 3, none⟩ = some (.int .i64 L[n].S) ∧
          b1 < w'.heap.size ∧ b2 < w'.heap.size ∧ b3 < w'.heap.size) := Lib.hid (fun w' hb => by
        have k1 := l1.out.below hb
        have k2 := l2.out.below hb
        have k3 := l3.out.below hb
        have e1 := k1.cx n (by simpa using hlt)
        have e2 := k1.cy n (by simpa using hlt)
        have e3 := k1.cf n (by simpa using hlt)
        have e4 := k2.c n (by simpa using hlt)
        have e5 := k3.cx n (by simpa using hlt)
        have e6 := k3.cy n (by simpa using hlt)
        have e7 := k3.cf n (by simpa using hlt)
        have e8 := k3.cs n (by simpa using hlt)
        simp only [List.getElem_map] at e1 e2 e3 e4 e5 e6 e7 e8
        exact ⟨e1, e2, e3, e4, e5, e6, e7, e8, k1.lt, k2.lt, k3.lt⟩)
      clear l1 l2 l3
      generalize L[n] = I at *
      obtain ⟨A, t, R, S, f⟩ := I
      simp only at hA hd
      replace hok1 := Lib.hid hok1
      replace hd := Lib.hid hd
      obtain ⟨e1, e2, e3, e4, e5, e6, e7, e8, g1, g2, g3⟩ := hA.out wr hb.out
      have hFr := Lib.hid (hF1.out.below hb.out)
      clear hA
      cases hf : (sq f).far with
      | true =>
        have hs : Hid (wrongs (L.map (·.e)) (n + 1) = wrongs (L.map (·.e)) n) := Lib.hid (by show (if (sq ((L.map (·.e)).getD n 0)).far then _ else _) = _; rw [hd.out, if_pos hf])
        replace hf := Lib.hid hf
        go_wp2_with fail
        refine wp_region_grow Tryd.mixed (by kernel_rfl) ?_
        repeat (quiet_step ((go_at_call 20; exact grow_of (vfy_e A R t S f true _ (hFr.out.below (below_seq (below_alloc _ _) (Grew.h _))) hok1 hf))))
        refine wpQuiet_nil ?_
        intro _ hw'
        obtain ⟨x, rfl⟩ := hw'
        have hx := Lib.hid (below_seq (below_alloc _ _) x.h)
        have ow2 := Lib.hid (own_below hown.out hx.out)
        have hby := Lib.hid (below_seq hb.out hx.out)
        clear hown hx hb e1 e2 e3 e4 e5 e6 e7 e8
        go_wp2
        go_roundw
        case rel => exact ⟨n + 1, _, by omega, by go_num, rfl, by rw [hs.out]; exact ow2.out, hby.out⟩
        case measure => simp [intOf]; omega
      | false =>
        have hs : Hid (wrongs (L.map (·.e)) (n + 1) = wrongs (L.map (·.e)) n ++ [(n : Int)]) := Lib.hid (by show (if (sq ((L.map (·.e)).getD n 0)).far then _ else _) = _; rw [hd.out, if_neg (by rw [hf]; decide)])
        have hs2 : Hid ((wrongs (L.map (·.e)) (n + 1)).length = (wrongs (L.map (·.e)) n).length + 1) := Lib.hid (by rw [hs.out]; simp)
        replace hf := Lib.hid hf
        generalize wrongs (L.map (·.e)) n = W at *
        go_wp2_with fail
        refine wp_region_grow Tryd.mixed (by kernel_rfl) ?_
        repeat (quiet_step ((go_at_call 20; exact grow_of (vfy_e A R t S f false _ (hFr.out.below (below_seq (below_alloc _ _) (Grew.h _))) hok1 hf))))
        refine wpQuiet_nil ?_
        intro _ hw'
        obtain ⟨x, rfl⟩ := hw'
        have hx := Lib.hid (below_seq (below_alloc _ _) x.h)
        have ow2 := Lib.hid (own_below hown.out hx.out)
        have hby := Lib.hid (below_seq hb.out hx.out)
        have zy := hby.out.size
        clear hown hx hb e1 e2 e3 e4 e5 e6 e7 e8
        generalize hyw : x.w = y at *
        clear hyw x
        go_wp2_with (first | (at_builtin; refine wpl_append_int rfl _ _ _ rfl (by kernel_rfl) w1.heap.size _ W W.length rfl (ow2.out.alloc _) rfl (by omega) (by simp only [World.size_alloc]; omega) y.heap.size n rfl (by go_simp) ?_; intro v' w3 hown' hgrow hbel hloc; replace hown' := Lib.hid hown'; replace hbel := Lib.hid (hbel w1 (balloc hby.out _)); clear hgrow hloc ow2 hby) | fail)
        go_wp2
        go_roundw
        case rel => exact ⟨n + 1, _, by omega, by go_num, rfl, by rw [hs2.out, hs.out]; exact hown'.out, hbel.out⟩
        case measure => simp [intOf]; omega
    · obtain rfl : n = L.length := by omega
      have hI : Hid (IntSl wr u (wrongs (L.map (·.e)) L.length)) := Lib.hid (own_ints hown.out rfl)
      have hBr := Lib.hid (below_seq hB1.out hb.out)
      go_wp2
      go_ret2
      exact ⟨_, rfl, hI.out, hBr.out⟩
end Go.Proofs.YtcphbigiooibcaaDoor
namespace Go.Proofs.YtcphbigiooibcaaDoor
open Go.RowKit
set_option linter.unusedVariables false
/-- The cells of some seals. -/
def slCells : List (Sp × Int) → List Value
  | [] => []
  | s :: l => .int .i64 s.1.x :: .int .i64 s.1.y :: .bool s.1.far :: .int .i64 s.2 :: slCells l
theorem slCells_len : ∀ l : List (Sp × Int), (slCells l).length = l.length * 4
  | [] => rfl
  | s :: l => by simp only [slCells, List.length_cons, slCells_len l]; omega
theorem slCells_snoc : ∀ (l : List (Sp × Int)) (s : Sp × Int), slCells (l ++ [s]) = slCells l ++ [.int .i64 s.1.x, .int .i64 s.1.y, .bool s.1.far, .int .i64 s.2]
  | [], _ => rfl
  | t :: l, s => by simp only [List.cons_append, slCells, slCells_snoc l s]
theorem slCells_get : ∀ (l : List (Sp × Int)) (i : Nat) (h : i < l.length), (slCells l)[i * 4]? = some (.int .i64 l[i].1.x) ∧ (slCells l)[i * 4 + 1]? = some (.int .i64 l[i].1.y) ∧ (slCells l)[i * 4 + 2]? = some (.bool l[i].1.far) ∧ (slCells l)[i * 4 + 3]? = some (.int .i64 l[i].2)
  | [], _, h => absurd h (Nat.not_lt_zero _)
  | s :: l, 0, _ => ⟨rfl, rfl, rfl, rfl⟩
  | s :: l, i + 1, h => by
    have := slCells_get l i (by simpa using h)
    rw [Nat.add_mul]
    exact this
theorem slCells_set : ∀ (l : List (Sp × Int)) (i : Nat) (h : i < l.length) (n : Int), (slCells l).set (i * 4 + 3) (.int .i64 n) = slCells (l.set i (l[i].1, n))
  | [], _, h, _ => absurd h (Nat.not_lt_zero _)
  | s :: l, 0, _, n => rfl
  | s :: l, i + 1, h, n => by
    have := slCells_set l i (by simpa using h) n
    rw [show (i + 1) * 4 + 3 = (i * 4 + 3) + 1 + 1 + 1 + 1 by omega]
    simp only [slCells, List.set_cons_succ, List.getElem_cons_succ, this]
theorem own_seals {w : World} {B e : Nat} {v : Value} {l : List (Sp × Int)} {n : Nat} (h : w.ownsRow B e 4 v n (slCells l)) (hn : n = l.length) : SlSl w v l := by
  subst hn
  obtain ⟨hl, h | ⟨g, cap, cur, rfl, hb, hg, hc, -, -, ht⟩⟩ := h
  · obtain ⟨rfl, h0⟩ := h
    exact ⟨none, 0, by rw [h0], fun hp => absurd h0 (by omega)⟩
  · refine ⟨_, _, rfl, fun _ => ⟨g, 0, rfl, (Array.getElem?_eq_some_iff.1 hg).1, fun i hi => ?_, fun i hi => ?_, fun i hi => ?_, fun i hi => ?_⟩⟩
    all_goals
      obtain ⟨k1, k2, k3, k4⟩ := slCells_get l i hi
      rw [cell_of_row w g _ cur e (0, 0) hg]
      simp only [Nat.zero_add]
      rw [← ht, List.getElem?_take, if_pos (by omega), Array.getElem?_toList] at k1 k2 k3 k4
      assumption
theorem SlSl.made (w : World) (l : List (Sp × Int)) (k n cap : Nat) (cs : Array Value) (t : TypeId) (hk : k = w.heap.size) (hc : cs = (slCells l).toArray) (hn : n = l.length) : SlSl (w.alloc (.cells cs t)) (.slice (some ⟨k, 0, none⟩) n cap) l := by
  subst hk hc hn
  refine ⟨_, _, rfl, fun _ => ⟨w.heap.size, 0, rfl, by simp, fun i hi => ?_, fun i hi => ?_, fun i hi => ?_, fun i hi => ?_⟩⟩
  all_goals
    obtain ⟨k1, k2, k3, k4⟩ := slCells_get l i hi
    rw [cell_of_row _ w.heap.size _ (slCells l).toArray t (0, 0) (heap_alloc_new w _)]
    simp only [Nat.zero_add, List.getElem?_toArray]
    assumption
theorem StrSl.made (w : World) (l : List ByteArray) (k n cap : Nat) (cs : Array Value) (t : TypeId) (hk : k = w.heap.size) (hc : cs = (l.map Value.string).toArray) (hn : n = l.length) : StrSl (w.alloc (.cells cs t)) (.slice (some ⟨k, 0, none⟩) n cap) l := by
  subst hk hc hn
  refine ⟨_, _, rfl, fun _ => ⟨w.heap.size, 0, rfl, by simp, fun i hi => ?_⟩⟩
  have k1 : (l.map Value.string)[i]? = some (.string l[i]) := by simp [hi]
  rw [cell_of_row _ w.heap.size _ (l.map Value.string).toArray t (0, 0) (heap_alloc_new w _)]
  simp only [Nat.zero_add, List.getElem?_toArray]
  assumption
theorem info_seal : (Tryd.prog.info? 25).map (fun i => (i.zero, i.size, i.bytes)) = some (some (.agg #[.int .i64 0, .int .i64 0, .bool false, .int .i64 0]), 4, 32) := by kernel_rfl
theorem wpl_append_seal {w : World} {ops : Array Oper} {rest : List Oper} {o : Oper} {a : Act} {Q : Exit → Act → World → Prop} (hgd : o.guard = none) (s x : Operand) (t : TypeId)
    (ho : o.op = .call { callee := .builtin .append, args := #[s, x], argTypes := #[t, t] }) (ht : Tryd.prog.underlying t = some (.slice 25)) (B : Nat) (v : Value) (l : List (Sp × Int)) (n : Nat) (hs : a.eval s = v)
    (hown : w.ownsRow B 25 4 v n (slCells l)) (hn : l.length = n) (hl : n ≤ 1000000) (hB : B ≤ w.heap.size) (g : Nat) (c : Sp × Int) (hx : a.eval x = .slice (some ⟨g, 0, none⟩) 1 1)
    (h0 : w.cell? ⟨g, 0, none⟩ = some (.int .i64 c.1.x)) (h1 : w.cell? ⟨g, 1, none⟩ = some (.int .i64 c.1.y)) (h2 : w.cell? ⟨g, 2, none⟩ = some (.bool c.1.far)) (h3 : w.cell? ⟨g, 3, none⟩ = some (.int .i64 c.2))
    (h : ∀ v' w', w'.ownsRow B 25 4 v' (n + 1) (slCells (l ++ [c])) → w.grownBy w' v.ownBlock → (∀ a, Below B a w → Below B a w') → (v'.ownBlock = v.ownBlock ∨ v'.ownBlock = some w.heap.size) → wpList Tryd.prog ops Q rest (a.put o.dst v') w') :
    wpList Tryd.prog ops Q (o :: rest) a w := by
  obtain ⟨i0, hi, hz0, hz1, hz2⟩ := info_parts info_seal
  refine wpList_append_own_at _ hgd s x _ ho B _ i0 _ 4 32 ht hi hz0 hz1 hz2 rfl (by decide) v n _ hs hown ⟨g, 0, none⟩ 1 1 [.int .i64 c.1.x, .int .i64 c.1.y, .bool c.1.far, .int .i64 c.2] hx rfl ?_ ?_ (by unfold maxLen; omega) (by omega) hB ?_
  · intro j u hj
    have e : ∀ k, (⟨g, 0, none⟩ : Addr).add k = ⟨g, k, none⟩ := fun k => by rw [add_none, Nat.zero_add]
    rw [e]
    match j, hj with
    | 0, hj => cases hj; exact h0
    | 1, hj => cases hj; exact h1
    | 2, hj => cases hj; exact h2
    | 3, hj => cases hj; exact h3
  · intro u hu
    simp only [List.mem_cons, List.not_mem_nil, or_false] at hu
    rcases hu with rfl | rfl | rfl | rfl <;> rfl
  · intro v' w' h3 h4 _ h6
    rw [← slCells_snoc] at h3
    exact h v' w' h3 h4 (fun a hb => Below.grown hb h4 hB (fun k hk => (hown.lt k hk).1)) h6
/-- Two slices that own no block together. -/
def Ap (u v : Value) : Prop := ∀ g, u.ownBlock = some g → v.ownBlock ≠ some g
theorem Ap.symm {u v : Value} (h : Ap u v) : Ap v u := fun g hv hu => h g hu hv
theorem Ap.nil (v : Value) : Ap (.slice none 0 0) v := fun g h => by cases h
/-- What is appended to one leaves the other one. -/
theorem row_pair {w w' : World} {B e size n : Nat} {u u' v : Value} {ys : List Value} (hv : w.ownsRow B e size v n ys) (ha : Ap u v) (hg : w.grownBy w' u.ownBlock) (hl : u'.ownBlock = u.ownBlock ∨ u'.ownBlock = some w.heap.size) : w'.ownsRow B e size v n ys ∧ Ap u' v := by
  refine ⟨hv.kept hg ?_, fun g h1 h2 => ?_⟩
  · cases hvb : v.ownBlock with
    | none => exact .inl rfl
    | some k => exact .inr (fun e => ha k e.symm hvb)
  · rcases hl with e | e
    · exact ha g (e.symm.trans h1) h2
    · rw [e] at h1
      have := (hv.lt g h2).2
      cases h1
      exact Nat.lt_irrefl _ this
/-- A seal that lies there. -/
structure SlAt (w : World) (b : Nat) (R : Sp) (S : Int) : Prop where
  c0 : w.cell? ⟨b, 0, none⟩ = some (.int .i64 R.x)
  c1 : w.cell? ⟨b, 1, none⟩ = some (.int .i64 R.y)
  c2 : w.cell? ⟨b, 2, none⟩ = some (.bool R.far)
  c3 : w.cell? ⟨b, 3, none⟩ = some (.int .i64 S)
  f0 : w.frozen? ⟨b, 0, none⟩ = false
  f1 : w.frozen? ⟨b, 1, none⟩ = false
  f2 : w.frozen? ⟨b, 2, none⟩ = false
  f3 : w.frozen? ⟨b, 3, none⟩ = false
  lt : b < w.heap.size
theorem SlAt.below {w w' : World} {b : Nat} {R : Sp} {S : Int} (h : SlAt w b R S) (hb : Below w.heap.size w w') : SlAt w' b R S := by
  obtain ⟨k, k'⟩ := bcell hb
  exact ⟨(k _ _ h.lt).trans h.c0, (k _ _ h.lt).trans h.c1, (k _ _ h.lt).trans h.c2, (k _ _ h.lt).trans h.c3, (k' _ _ h.lt).trans h.f0, (k' _ _ h.lt).trans h.f1, (k' _ _ h.lt).trans h.f2, (k' _ _ h.lt).trans h.f3, Nat.lt_of_lt_of_le h.lt hb.size⟩
theorem SlAt.drew {w : World} {b : Nat} {R : Sp} {S : Int} (h : SlAt w b R S) : SlAt w.drew b R S := ⟨h.c0, h.c1, h.c2, h.c3, h.f0, h.f1, h.f2, h.f3, h.lt⟩
theorem SlAt.fresh (w : World) (R : Sp) (S : Int) (t : TypeId) : SlAt (w.alloc (.cells #[.int .i64 R.x, .int .i64 R.y, .bool R.far, .int .i64 S] t)) w.heap.size R S := ⟨by simp, by simp, by simp, by simp, by simp, by simp, by simp, by simp, by simp⟩
theorem SlAt.set4 {w : World} {b : Nat} {R0 : Sp} {S0 : Int} (h : SlAt w b R0 S0) (R : Sp) (S : Int) : SlAt ((((w.setCell ⟨b, 0, none⟩ (.int .i64 R.x)).setCell ⟨b, 1, none⟩ (.int .i64 R.y)).setCell ⟨b, 2, none⟩ (.bool R.far)).setCell ⟨b, 3, none⟩ (.int .i64 S)) b R S := by
  have k := set4_cell (x := .int .i64 R.x) (y := .int .i64 R.y) (z := .bool R.far) (p := .int .i64 S) h.c0 h.c1 h.c2 h.c3
  exact ⟨k.1, k.2.1, k.2.2.1, k.2.2.2, by simp only [World.frozen?_setCell]; exact h.f0, by simp only [World.frozen?_setCell]; exact h.f1, by simp only [World.frozen?_setCell]; exact h.f2, by simp only [World.frozen?_setCell]; exact h.f3, by simpa [World.setCell] using h.lt⟩
end Go.Proofs.YtcphbigiooibcaaDoor
namespace Go.Proofs.YtcphbigiooibcaaDoor
set_option linter.unusedVariables false
/-- The seal of a text by x and k, to be looked at. -/
def mkIt (x k : Int) (t : ByteArray) : It :=
  ⟨sq (4 * x), t, sq (4 * k), (k + askN (sq (4 * k)) (sq (4 * x)) t.data.toList * x) % 1013, 4 * ((k + askN (sq (4 * k)) (sq (4 * x)) t.data.toList * x) % 1013) + -(4 * k + 4 * x * askN (sq (4 * k)) (sq (4 * x)) t.data.toList)⟩
theorem mkIt_ok (x k : Int) (t : ByteArray) (h : t.size ≤ 60) : (mkIt x k t).ok := ⟨4 * x, 4 * k, rfl, rfl, rfl, h, Int.emod_nonneg _ (by decide), Int.emod_lt_of_pos _ (by decide)⟩
theorem mkIt_e (x k : Int) (t : ByteArray) : (mkIt x k t).e % 4052 = 0 := by
  unfold mkIt
  simp only
  generalize askN _ _ _ = c
  rw [Int.mul_assoc, Int.mul_comm x c]
  generalize c * x = p
  omega
/-- With another number it is another one. -/
def It.add (i : It) (m : Int) : It := ⟨i.key, i.t, i.R, (i.S + m) % 1013, i.e + 4 * ((i.S + m) % 1013 - i.S)⟩
theorem It.plus_ok {i : It} (h : i.ok) (m : Int) : (i.add m).ok := by
  obtain ⟨a, r, ha, hr, he, hz, -, -⟩ := h
  exact ⟨a, r, ha, hr, by simp only [It.add]; rw [he]; omega, hz, Int.emod_nonneg _ (by decide), Int.emod_lt_of_pos _ (by decide)⟩
theorem It.plus_e {i : It} (h : i.e % 4052 = 0) (m : Int) : (i.add m).e % 4052 = (4 * m) % 4052 := by
  simp only [It.add]; omega
/-- All seals. -/
def its : List Int → List Int → List ByteArray → List It
  | x :: xs, k :: ks, t :: ts => mkIt x k t :: its xs ks ts
  | _, _, _ => []
theorem its_len : ∀ (xs ks : List Int) (ts : List ByteArray), ks.length = xs.length → ts.length = xs.length → (its xs ks ts).length = xs.length
  | [], _, _, _, _ => rfl
  | x :: xs, k :: ks, t :: ts, h1, h2 => by simp only [its, List.length_cons]; rw [its_len xs ks ts (by simpa using h1) (by simpa using h2)]
  | x :: xs, [], _, h, _ => by simp at h
  | x :: xs, _ :: _, [], _, h => by simp at h
theorem its_get : ∀ (xs ks : List Int) (ts : List ByteArray) (i : Nat) (h1 : i < xs.length) (h2 : i < ks.length) (h3 : i < ts.length) (h : i < (its xs ks ts).length), (its xs ks ts)[i] = mkIt xs[i] ks[i] ts[i]
  | [], _, _, _, h, _, _, _ => absurd h (Nat.not_lt_zero _)
  | _ :: _, [], _, _, _, h, _, _ => absurd h (Nat.not_lt_zero _)
  | _ :: _, _ :: _, [], _, _, _, h, _ => absurd h (Nat.not_lt_zero _)
  | x :: xs, k :: ks, t :: ts, 0, _, _, _, _ => rfl
  | x :: xs, k :: ks, t :: ts, i + 1, h1, h2, h3, h => by
    simp only [its, List.getElem_cons_succ]
    exact its_get xs ks ts i (by simpa using h1) (by simpa using h2) (by simpa using h3) _
theorem its_t : ∀ (xs ks : List Int) (ts : List ByteArray), ks.length = xs.length → ts.length = xs.length → (its xs ks ts).map (·.t) = ts
  | [], _, [], _, _ => rfl
  | [], _, _ :: _, _, h => by simp at h
  | x :: xs, k :: ks, t :: ts, h1, h2 => by simp only [its, List.map_cons]; rw [its_t xs ks ts (by simpa using h1) (by simpa using h2)]; rfl
  | x :: xs, [], _, h, _ => by simp at h
  | x :: xs, _ :: _, [], _, h => by simp at h
theorem its_e : ∀ (xs ks : List Int) (ts : List ByteArray), ∀ e ∈ (its xs ks ts).map (·.e), e % 4052 = 0
  | [], _, _, e, h => by simp [its] at h
  | _ :: _, [], _, e, h => by simp [its] at h
  | _ :: _, _ :: _, [], e, h => by simp [its] at h
  | x :: xs, k :: ks, t :: ts, e, h => by
    simp only [its, List.map_cons, List.mem_cons] at h
    rcases h with rfl | h
    · exact mkIt_e x k t
    · exact its_e xs ks ts e h
theorem mul_z4 {e c : Int} (h : e % 4052 = 0) : (e * c) % 4052 = 0 := by
  rw [Int.mul_emod, h, Int.zero_mul]; rfl
theorem dot_z : ∀ (es ws : List Int), (∀ e ∈ es, e % 4052 = 0) → dot es ws % 4052 = 0
  | [], ws, _ => by rw [dot_nil]; rfl
  | _ :: _, [], _ => rfl
  | e :: es, c :: cs, h => by
    have h1 := dot_z es cs (fun x hx => h x (List.mem_cons_of_mem _ hx))
    have h2 := mul_z4 (c := c) (h e (List.mem_cons_self ..))
    simp only [dot]
    omega
theorem dot_far {es ws : List Int} (h : ∀ e ∈ es, e % 4052 = 0) : (sq (dot es ws)).far = true := sq_far.mpr (dot_z es ws h)
theorem dot_set : ∀ (es ws : List Int) (i : Nat) (h1 : i < es.length) (h2 : i < ws.length) (x : Int), dot (es.set i x) ws = dot es ws + (x - es[i]) * ws[i]
  | [], _, _, h, _, _ => absurd h (Nat.not_lt_zero _)
  | _ :: _, [], _, _, h, _ => absurd h (Nat.not_lt_zero _)
  | e :: es, c :: cs, 0, _, _, x => by simp only [List.set_cons_zero, dot, List.getElem_cons_zero, Int.sub_mul]; omega
  | e :: es, c :: cs, i + 1, h1, h2, x => by
    have := dot_set es cs i (by simpa using h1) (by simpa using h2) x
    simp only [List.set_cons_succ, dot, List.getElem_cons_succ, this]
    omega
theorem mul_13 {m c : Int} (m0 : 1 ≤ m) (m1 : m < 1013) (c0 : 1 ≤ c) (c1 : c < 1013) : (m * c) % 1013 ≠ 0 := fun h => by
  have := q_inj (n := c) (m := 0) m0 m1 (by rw [h, Int.mul_zero]; rfl)
  omega
/-- One that is wrong is not made up for by the others. -/
theorem dot_not {es ws : List Int} (h : ∀ e ∈ es, e % 4052 = 0) (i : Nat) (h1 : i < es.length) (h2 : i < ws.length) {x m : Int} (hx : x % 4052 = (4 * m) % 4052) (m0 : 1 ≤ m) (m1 : m < 1013) (c0 : 1 ≤ ws[i]) (c1 : ws[i] < 1013) : (sq (dot (es.set i x) ws)).far = false := by
  refine sq_far_not ?_
  rw [dot_set es ws i h1 h2 x]
  have h3 := dot_z es ws h
  have h4 := h es[i] (List.getElem_mem h1)
  have h5 := mul_13 m0 m1 c0 c1
  have h6 : ((x - es[i]) * ws[i]) % 4052 = (4 * (m * ws[i])) % 4052 := by
    rw [← Int.mul_assoc, Int.mul_emod, Int.mul_emod (4 * m)]
    congr 2
    omega
  omega
theorem wrongs_none (es : List Int) (h : ∀ e ∈ es, e % 4052 = 0) : ∀ n, n ≤ es.length → wrongs es n = []
  | 0, _ => rfl
  | n + 1, hn => by
    have he : (sq (es.getD n 0)).far = true := sq_far.mpr (h _ (by rw [List.getD_eq_getElem?_getD, List.getElem?_eq_getElem (by omega)]; exact List.getElem_mem _))
    rw [wrongs, if_pos he, wrongs_none es h n (by omega)]
theorem wrongs_one (es : List Int) (h : ∀ e ∈ es, e % 4052 = 0) (i : Nat) (h1 : i < es.length) {x m : Int} (hx : x % 4052 = (4 * m) % 4052) (m0 : 1 ≤ m) (m1 : m < 1013) : ∀ n, n ≤ es.length → wrongs (es.set i x) n = if i < n then [(i : Int)] else []
  | 0, _ => by rw [if_neg (Nat.not_lt_zero _)]; rfl
  | n + 1, hn => by
    have ih := wrongs_one es h i h1 hx m0 m1 n (by omega)
    by_cases hin : i = n
    · subst hin
      have he : ¬ (sq ((es.set i x).getD i 0)).far = true := by
        rw [List.getD_eq_getElem?_getD, List.getElem?_eq_getElem (by simpa using h1)]
        simp only [Option.getD_some, List.getElem_set_self]
        rw [sq_far_not (by omega)]; decide
      rw [wrongs, if_neg he, ih, if_neg (Nat.lt_irrefl _), if_pos (Nat.lt_succ_self _)]; rfl
    · have he : (sq ((es.set i x).getD n 0)).far = true := by
        rw [List.getD_eq_getElem?_getD, List.getElem?_eq_getElem (by simp; omega)]
        simp only [Option.getD_some]
        rw [List.getElem_set_ne hin]
        exact sq_far.mpr (h _ (List.getElem_mem _))
      rw [wrongs, if_pos he, ih]
      by_cases hlt : i < n
      · rw [if_pos hlt, if_pos (by omega)]
      · rw [if_neg hlt, if_neg (by omega)]
end Go.Proofs.YtcphbigiooibcaaDoor
