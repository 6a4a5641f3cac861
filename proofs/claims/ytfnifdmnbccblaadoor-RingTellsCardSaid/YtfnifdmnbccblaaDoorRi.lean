/- Walks of layer ring: next, ready, Verify. -/
import Derived.Test.YtfnifdmnbccblaaDoorGa
import Derived.Test.YtfnifdmnbccblaaDoorCf
import Derived.Test.YtfnifdmnbccblaaDoorSf
import Derived.Deep.QuietTactic
namespace Go.Proofs.YtfnifdmnbccblaaDoor
open Go.RowKit
set_option maxRecDepth 100000
set_option linter.unusedVariables false
set_option linter.unusedSimpArgs false
/-- The challenge behind a spot. -/
def rAsk (L t : ByteArray) (D : Sp) : Int := hnum (L ++ sBytes D ++ t).data.toList
theorem rAsk_bd (L t : ByteArray) (D : Sp) : 0 ≤ rAsk L t D ∧ rAsk L t D < 1013 := hnum_bd _
/-- The challenge behind a key. -/
def rNext (L t : ByteArray) (u c s : Int) : Int := rAsk L t (sq (4 * s + u * c))
set_option maxHeartbeats 4000000 in
theorem next_core (L t : ByteArray) (K A B D : Sp) (u c s v : Int) (w : World) (hF : FarAt w) (hL : L.size ≤ 100) (ht : t.size ≤ 60) (hu : Hid (K = sq u)) (hA : Hid (sq (4 * s) = A)) (hB' : Hid (sq (u * c) = B)) (oA : Ok A) (oB : Ok B) (hD : Hid (sSum A B = D)) (oD : Ok D) (hv : Hid (hnum (L ++ sBytes D ++ t).data.toList = v)) :
    Calls Tryd.prog 112 #[.string L, .string t, spV K, .int .i64 c, .int .i64 s] w fun e w' => e = .returned (.int .i64 v) ∧ Below w.heap.size w w' := by
  have hz : (L ++ sBytes D ++ t).size ≤ 9223372036854775807 := by
    have := sBytes_size D
    rw [ByteArray.size_append, ByteArray.size_append]; omega
  replace hz := Lib.hid hz
  have hz1 := sBytes_size D
  have hbo := Lib.hid (fun (w : World) => bytesOf_c D w oD)
  generalize sBytes D = BD at *
  have n1 : ¬ (9223372036854775807 < L.size + BD.size) := by omega
  have n2 : ¬ (9223372036854775807 < L.size + BD.size + t.size) := by omega
  go_enter Tryd.func112, Tryd.ntmps112
  go_wp2_with fail
  refine wp_region_grow Tryd.mixed (by kernel_rfl) ?_
  repeat (quiet_step ((first | (go_at_call 76; exact grow_of (by_e s A _ (hF.below (below_seq (by repeat (first | exact Below.refl _ _ | refine balloc ?_ _ | refine Below.drew ?_ | refine below_drewN ?_ _ | refine below_set ?_ (by first | omega | (dsimp only; omega)) _)) (Grew.h _))) hA)) | (go_at_call 78; exact grow_of (of_e K B u c _ (hF.below (below_seq (by repeat (first | exact Below.refl _ _ | refine balloc ?_ _ | refine Below.drew ?_ | refine below_drewN ?_ _ | refine below_set ?_ (by first | omega | (dsimp only; omega)) _)) (Grew.h _))) hu hB')) | (go_at_call 83; exact grow_of (sum_e A B D _ (hF.below (below_seq (by repeat (first | exact Below.refl _ _ | refine balloc ?_ _ | refine Below.drew ?_ | refine below_drewN ?_ _ | refine below_set ?_ (by first | omega | (dsimp only; omega)) _)) (Grew.h _))) oA oB hD)) | (go_at_call 111; exact grow_of (hbo.out _)) | (go_at_call 106; exact grow_of (hashNumber_n (L ++ BD ++ t) v _ hz.out hv)))))
  refine wpQuiet_nil ?_
  intro _ hw'
  obtain ⟨x1, rfl⟩ := hw'
  have z1 := x1.h.size
  try simp only [World.size_alloc, World.size_setCell, World.size_drew] at z1
  have s1_0 : w.heap.size < x1.w.heap.size := by omega
  have hB1 : Below w.heap.size w x1.w := below_seq (by repeat (first | exact Below.refl _ _ | refine balloc ?_ _ | refine Below.drew ?_ | refine below_drewN ?_ _ | refine below_set ?_ (by first | omega | (dsimp only; omega)) _)) x1.h
  go_wp2
  go_ret
  exact ⟨rfl, (by repeat (first | exact hB1 | exact Below.refl _ _ | refine balloc ?_ _ | refine Below.drew ?_ | refine below_drewN ?_ _ | refine below_set ?_ (by first | omega | (dsimp only; omega)) _))⟩
theorem next_e (L t : ByteArray) (K : Sp) (u c s v : Int) (w : World) (hF : FarAt w) (hL : L.size ≤ 100) (ht : t.size ≤ 60) (hu : Hid (K = sq u)) (hv : Hid (rNext L t u c s = v)) :
    Calls Tryd.prog 112 #[.string L, .string t, spV K, .int .i64 c, .int .i64 s] w fun e w' => e = .returned (.int .i64 v) ∧ Below w.heap.size w w' :=
  next_core L t K _ _ _ u c s v w hF hL ht hu rfl rfl (sq_ok _) (sq_ok _) rfl (by rw [sq_add]; exact sq_ok _) (by rw [sq_add]; exact hv)
set_option maxHeartbeats 4000000 in
theorem ready_e (l : List Sp) (v : Value) (t : ByteArray) (w : World) (hF : FarAt w) (h1 : 1 ≤ l.length) (h2 : l.length ≤ 12) (hs : SpSl w v l) (hok : ∀ z ∈ l, Ok z) (ht : t.size ≤ 60) :
    Calls Tryd.prog 105 #[v, .string t] w fun e w' => e = .returned (.tuple #[.string (lsB l.length l), .nilIface]) ∧ Below w.heap.size w w' := by
  have hL := Lib.hid (list_sl l v w hF h2 hs hok)
  obtain ⟨a, cap, rfl, h0⟩ := hs
  clear h0 hok
  have hd : ((l.length : Int) == 0) = false := by rw [beq_eq_false_iff_ne]; omega
  generalize lsB l.length l = B at *
  go_enter Tryd.func105, Tryd.ntmps105
  go_wp2_with fail
  refine (hL.out).mono ?_; rintro e w1 ⟨rfl, hb⟩
  obtain ⟨hc1, hf1⟩ := bcell hb
  have z1 := hb.size
  try simp only [World.size_alloc, World.size_setCell, World.size_drew] at z1
  have hB1 : Below w.heap.size w w1 := below_seq (by repeat (first | exact Below.refl _ _ | refine balloc ?_ _ | refine Below.drew ?_ | refine below_drewN ?_ _ | refine below_set ?_ (by first | omega | (dsimp only; omega)) _)) hb
  clear hb
  go_wp2_with fail
  refine (text_y t _ ht).mono ?_; rintro e w' ⟨rfl, rfl⟩
  go_wp2
  go_ret2
  exact ⟨rfl, (by repeat (first | exact hB1 | exact Below.refl _ _ | refine balloc ?_ _ | refine Below.drew ?_ | refine below_drewN ?_ _ | refine below_set ?_ (by first | omega | (dsimp only; omega)) _))⟩
set_option maxHeartbeats 4000000 in
theorem ready_none (a : Option Addr) (cap : Nat) (t : ByteArray) (w : World) :
    Calls Tryd.prog 105 #[.slice a 0 cap, .string t] w fun e w' => e = .returned (.tuple #[.string ⟨#[]⟩, .iface 118 (.int .i64 5)]) ∧ Below w.heap.size w w' := by
  have hL := Lib.hid (list_zero a cap w)
  go_enter Tryd.func105, Tryd.ntmps105
  go_wp2_with fail
  refine (hL.out).mono ?_; rintro e w1 ⟨rfl, hb⟩
  obtain ⟨hc1, hf1⟩ := bcell hb
  have z1 := hb.size
  try simp only [World.size_alloc, World.size_setCell, World.size_drew] at z1
  have hB1 : Below w.heap.size w w1 := below_seq (by repeat (first | exact Below.refl _ _ | refine balloc ?_ _ | refine Below.drew ?_ | refine below_drewN ?_ _ | refine below_set ?_ (by first | omega | (dsimp only; omega)) _)) hb
  clear hb
  go_wp2
  go_ret2
  exact ⟨rfl, (by repeat (first | exact hB1 | exact Below.refl _ _ | refine balloc ?_ _ | refine Below.drew ?_ | refine below_drewN ?_ _ | refine below_set ?_ (by first | omega | (dsimp only; omega)) _))⟩
theorem ret_tb {a b : Bool} (h : a = b) : Ending.returned (.tuple #[.bool a, .nilIface]) = Ending.returned (.tuple #[.bool b, .nilIface]) := by rw [h]
/-- What the challenge is behind so many keys. -/
def rChain (L t : ByteArray) (us ss : List Int) (C : Int) : Nat → Int
  | 0 => C
  | n + 1 => rNext L t (us.getD n 0) (rChain L t us ss C n) (ss.getD n 0)
theorem getD_at {l : List Int} {i : Nat} (h : i < l.length) : l.getD i 0 = l[i] := by rw [List.getD_eq_getElem?_getD, List.getElem?_eq_getElem h]; rfl
theorem rChain_bd {L t : ByteArray} {us ss : List Int} {C : Int} (h0 : 0 ≤ C) (h1 : C < 1013) : ∀ n, 0 ≤ rChain L t us ss C n ∧ rChain L t us ss C n < 1013
  | 0 => ⟨h0, h1⟩
  | n + 1 => rAsk_bd _ _ _
set_option maxHeartbeats 8000000 in
theorem rverify_e (us : List Int) (l : List Sp) (ss : List Int) (vk vs : Value) (t : ByteArray) (C : Int) (b : Bool) (w : World) (hF : FarAt w) (h1 : 1 ≤ l.length) (h2 : l.length ≤ 12) (hl : Hid (l = us.map sq)) (hsl : ss.length = l.length) (hss : ss.all okR = true) (c0 : 0 ≤ C) (c1 : C < 1013) (ht : t.size ≤ 60)
    (hk : SpSl w vk l) (hv : IntSl w vs ss) (hb : Hid ((rChain (lsB l.length l) t us ss C l.length == C) = b)) :
    Calls Tryd.prog 51 #[vk, .string t, .agg #[.int .i64 C, vs]] w fun e w' => e = .returned (.tuple #[.bool b, .nilIface]) ∧ Below w.heap.size w w' := by
  have hok : ∀ z ∈ l, Ok z := by rw [hl.out]; intro z hz; obtain ⟨u, -, rfl⟩ := List.mem_map.mp hz; exact sq_ok u
  have hul : us.length = l.length := by rw [hl.out, List.length_map]
  have hue : Hid (∀ i (h1 : i < l.length) (h2 : i < us.length), l[i] = sq us[i]) := Lib.hid (by
    intro i h1 h2
    have := hl.out
    subst this
    rw [List.getElem_map])
  have hR := Lib.hid (fun (w : World) hF hs => ready_e l vk t w hF h1 h2 hs hok ht)
  have hCF := Lib.hid (fun (w : World) h => contF_v ss vs w (by omega) h)
  rw [hss] at hCF
  obtain ⟨a1, k1, rfl, h3⟩ := hk
  obtain ⟨a2, k2, rfl, h4⟩ := hv
  rw [hsl] at h4 hCF ⊢
  have hz := lsB_size l.length l
  have hcs : Hid (∀ n, n < l.length → (h : n < us.length) → (h' : n < ss.length) → rChain (lsB l.length l) t us ss C (n + 1) = rNext (lsB l.length l) t us[n] (rChain (lsB l.length l) t us ss C n) ss[n]) := Lib.hid (fun n _ h h' => by rw [rChain, getD_at h, getD_at h'])
  have hc0 : Hid (rChain (lsB l.length l) t us ss C 0 = C) := Lib.hid rfl
  generalize hch : rChain (lsB l.length l) t us ss C = ch at *
  generalize hLe : lsB l.length l = L at *
  have hLs : L.size ≤ 100 := by omega
  replace h3 := Lib.hid h3
  replace h4 := Lib.hid h4
  clear hch hLe hz hok hl hss
  have hF' := Lib.hid hF
  go_enter Tryd.func51, Tryd.ntmps51
  go_wp2_with fail
  refine (hR.out _ (hF.below (below_alloc _ _)) ⟨a1, k1, rfl, fun hp => by obtain ⟨b, off, e, hs⟩ := h3.out hp; exact ⟨b, off, e, hs.below (below_alloc _ _)⟩⟩).mono ?_; rintro e w1 ⟨rfl, hb1⟩
  have z0 := ((bcell hb1).1 w.heap.size 0 (by simp)).trans (show (w.alloc (.cells #[.int .i64 C, .slice a2 l.length k2] 76)).cell? ⟨w.heap.size, 0, none⟩ = some (.int .i64 C) by simp)
  have z1 := ((bcell hb1).1 w.heap.size 1 (by simp)).trans (show (w.alloc (.cells #[.int .i64 C, .slice a2 l.length k2] 76)).cell? ⟨w.heap.size, 1, none⟩ = some (.slice a2 l.length k2) by simp)
  have hB1 := Lib.hid (below_seq (below_alloc w (.cells #[.int .i64 C, .slice a2 l.length k2] 76)) hb1)
  have z2 : w.heap.size < w1.heap.size := by have := hb1.size; simp only [World.size_alloc] at this; omega
  have i3 := Lib.hid (fun w' (hb' : Below w1.heap.size w1 w') hp => by obtain ⟨b, off, e, hs⟩ := h3.out hp; exact (⟨b, off, e, (hs.below hB1.out).below hb'⟩ : ∃ b off, a1 = some ⟨b, off, none⟩ ∧ SpotsAt w' b off l))
  have i4 := Lib.hid (fun w' (hb' : Below w1.heap.size w1 w') hp => by obtain ⟨b, off, e, hs⟩ := h4.out hp; exact (⟨b, off, e, (hs.below hB1.out).below hb'⟩ : ∃ b off, a2 = some ⟨b, off, none⟩ ∧ IntsAt w' b off ss))
  have hF1 := Lib.hid (hF'.out.below hB1.out)
  clear h3 h4 hb1 hR hF
  go_wp2_with fail
  refine (rest_y C _ c0 c1).mono ?_; rintro e w' ⟨rfl, rfl⟩
  go_wp2_with fail
  refine (hCF.out _ ⟨a2, k2, by rw [hsl], fun hp => i4.out _ (Below.refl _ _) (by omega)⟩).mono ?_; rintro e w' ⟨rfl, rfl⟩
  go_wp2
  go_loopw [10, 46] (fun c i wr => ∃ n : Nat, n ≤ l.length ∧ i = .int .i64 n ∧ c = .int .i64 (ch n) ∧ Below w1.heap.size w1 wr) (fun _ i _ => l.length - (intOf i).toNat)
  case atStart => exact ⟨0, Nat.zero_le _, rfl, by rw [hc0.out], Below.refl _ _⟩
  case round =>
    obtain ⟨n, hn, rfl, rfl, hbr⟩ := hrel
    replace hbr := Lib.hid hbr
    by_cases hlt : n < l.length
    · obtain ⟨b3, o3, rfl, hs3⟩ := i3.out _ hbr.out (by omega)
      obtain ⟨b4, o4, rfl, hs4⟩ := i4.out _ hbr.out (by omega)
      have l1 := hs3.cx n hlt
      have l2 := hs3.cy n hlt
      have l3 := hs3.cf n hlt
      have l4 := hs3.lt
      have l5 := hs4.c n (by omega)
      have l6 := hs4.lt
      have y0 := ((bcell hbr.out).1 w.heap.size 0 z2).trans z0
      have y1 := ((bcell hbr.out).1 w.heap.size 1 z2).trans z1
      have y2 := Nat.lt_of_lt_of_le z2 hbr.out.size
      have hu := hue.out n hlt (by omega)
      have hst := hcs.out n hlt (by omega) (by omega)
      generalize (l[n]) = K at *
      generalize (us[n]'(by omega)) = u at *
      generalize (ss[n]'(by omega)) = s at *
      generalize ch n = c at *
      replace hu := Lib.hid hu
      replace hst := Lib.hid hst.symm
      generalize hv : ch (n + 1) = v at *
      replace hv := Lib.hid hv
      have hFr := Lib.hid (hF1.out.below hbr.out)
      clear hs3 hs4
      go_wp2_with fail
      refine wp_region_grow Tryd.mixed (by kernel_rfl) ?_
      repeat (quiet_step ((go_at_call 112; exact grow_of (next_e L t K u c s v _ (hFr.out.below (below_seq (below_alloc _ _) (Grew.h _))) hLs ht hu hst))))
      refine wpQuiet_nil ?_
      intro _ hw'
      obtain ⟨x, rfl⟩ := hw'
      have hx := Lib.hid (below_seq hbr.out (below_seq (below_alloc _ _) x.h))
      clear l1 l2 l3 l4 l5 l6 y0 y1 y2
      go_wp2
      go_roundw
      case rel => exact ⟨n + 1, by omega, by go_num, by rw [hv.out], hx.out⟩
      case measure => simp [intOf]; omega
    · obtain rfl : n = l.length := by omega
      have y0 := ((bcell hbr.out).1 w.heap.size 0 z2).trans z0
      have y1 := ((bcell hbr.out).1 w.heap.size 1 z2).trans z1
      have y2 := Nat.lt_of_lt_of_le z2 hbr.out.size
      clear z0 z1
      generalize ch l.length = d at *
      go_wp2
      go_ret2
      exact ⟨ret_tb hb.out, below_seq hB1.out hbr.out⟩
theorem rverify_none (a : Option Addr) (cap : Nat) (t : ByteArray) (C : Int) (vs : Value) (w : World) :
    Calls Tryd.prog 51 #[.slice a 0 cap, .string t, .agg #[.int .i64 C, .slice none 0 0]] w fun e w' => e = .returned (.tuple #[.bool false, .iface 118 (.int .i64 5)]) ∧ Below w.heap.size w w' := by
  go_enter Tryd.func51, Tryd.ntmps51
  go_wp2_with fail
  refine (ready_none a cap t _).mono ?_; rintro e w1 ⟨rfl, hb⟩
  obtain ⟨hc1, hf1⟩ := bcell hb
  have z1 := hb.size
  try simp only [World.size_alloc, World.size_setCell, World.size_drew] at z1
  have s1_0 : w.heap.size < w1.heap.size := by omega
  have hB1 : Below w.heap.size w w1 := below_seq (by repeat (first | exact Below.refl _ _ | refine balloc ?_ _ | refine Below.drew ?_ | refine below_drewN ?_ _ | refine below_set ?_ (by first | omega | (dsimp only; omega)) _)) hb
  clear hb
  go_wp2
  go_ret2
  exact ⟨rfl, (by repeat (first | exact hB1 | exact Below.refl _ _ | refine balloc ?_ _ | refine Below.drew ?_ | refine below_drewN ?_ _ | refine below_set ?_ (by first | omega | (dsimp only; omega)) _))⟩
end Go.Proofs.YtfnifdmnbccblaaDoor
