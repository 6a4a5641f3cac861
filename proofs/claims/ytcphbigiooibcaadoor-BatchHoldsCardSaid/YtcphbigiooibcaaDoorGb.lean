/- Walks of layer group: Coefs, Joint. -/
import Derived.Test.YtcphbigiooibcaaDoorGa
import Derived.Test.YtcphbigiooibcaaDoorPo
import Derived.Deep.RegionWith
namespace Go.Proofs.YtcphbigiooibcaaDoor
open Go.RowKit
set_option maxRecDepth 100000
set_option linter.unusedVariables false
set_option linter.unusedSimpArgs false
theorem take_snoc {α : Type} (l : List α) (n : Nat) (h : n < l.length) : l.take (n + 1) = l.take n ++ [l[n]] := by
  rw [List.take_add_one, List.getElem?_eq_getElem h]; rfl
set_option maxHeartbeats 4000000 in
theorem coefs_c (l : List Sp) (v : Value) (w : World) (hF : FarAt w) (hl : l.length ≤ 12) (hs : SpSl w v l) (hok : ∀ z ∈ l, Ok z) :
    Calls Tryd.prog 17 #[v] w fun e w' => ∃ v', e = .returned (.tuple #[v', .nilIface]) ∧ IntSl w' v' (cfs l) ∧ Below w.heap.size w w' := by
  have hL := fun w hF hs => list_sl l v w hF hl hs hok
  obtain ⟨a, cap, rfl, h0⟩ := hs
  have hL := Lib.hid (hL w hF ⟨a, cap, rfl, h0⟩)
  have hok' := Lib.hid hok
  have hlen := cfs_len l
  have hcf : Hid (∀ i (h : i < l.length) (h2 : i < (cfs l).length), (cfs l)[i] = hnum (lsB l.length l ++ sBytes l[i]).data.toList) := Lib.hid (fun i h _ => cfs_get l i h)
  have hz := lsB_size l.length l
  generalize hcs : cfs l = cs at *
  clear hok
  go_enter Tryd.func17, Tryd.ntmps17
  go_wp2_with fail
  refine hL.out.mono ?_; rintro e w0 ⟨rfl, hb0⟩
  clear hL
  have hs0 : Hid (0 < l.length → ∃ b off, a = some ⟨b, off, none⟩ ∧ SpotsAt w0 b off l) := Lib.hid (fun hp => by obtain ⟨b, off, e, hs⟩ := h0 hp; exact ⟨b, off, e, hs.below hb0⟩)
  clear h0 hF
  replace hb0 := Lib.hid hb0
  generalize hall : lsB l.length l = all at *
  replace hall := Lib.hid hall
  go_wp2
  go_loopw [6, 19] (fun o i wr => ∃ (n : Nat) (u : Value), n ≤ l.length ∧ i = .int .i64 n ∧ u = o ∧ wr.ownsRow w0.heap.size 3 1 u n ((cs.take n).map (Value.int .i64)) ∧ Below w0.heap.size w0 wr) (fun _ i _ => l.length - (intOf i).toNat)
  case atStart => exact ⟨0, _, Nat.zero_le _, rfl, rfl, World.ownsRow_nil _ _ _ _, Below.refl _ _⟩
  case round =>
    obtain ⟨n, u, hn, rfl, rfl, hown, hb⟩ := hrel
    replace hown := Lib.hid hown
    replace hb := Lib.hid hb
    by_cases hlt : n < l.length
    · obtain ⟨b, off, rfl, hsr⟩ := hs0.out (by omega)
      have hsr := hsr.below hb.out
      have h1 := hsr.cx n hlt
      have h2 := hsr.cy n hlt
      have h3 := hsr.cf n hlt
      have ho := hok'.out _ (List.getElem_mem hlt)
      have hc := hcf.out n hlt (by omega)
      have hsn := take_snoc cs n (by omega)
      have hz2 := sBytes_size l[n]
      rw [hc] at hsn
      have hlr := hb.out.size
      have htl : (cs.take n).length = n := by rw [List.length_take]; omega
      clear hsr hs0 hok' hcf hc
      generalize hA : l[n] = A at *
      clear hA
      obtain ⟨c, hc⟩ : ∃ c, hnum (all ++ sBytes A).data.toList = c := ⟨_, rfl⟩
      rw [hc] at hsn
      replace hsn := Lib.hid hsn
      replace hc := Lib.hid hc
      replace htl := Lib.hid htl
      go_wp2_with fail
      refine (bytesOf_c A _ ho).mono ?_; rintro e w1 ⟨rfl, hb1⟩
      have ow1 := Lib.hid (own_below (hown.out.alloc _) hb1)
      have hB1 := Lib.hid (below_seq (balloc hb.out _) hb1)
      have hs1 := hb1.size
      simp only [World.size_alloc] at hs1
      clear hown hb hb1
      go_wp2_with fail
      refine (hashNumber_n (all ++ sBytes A) c _ (by rw [ByteArray.size_append]; omega) hc).mono ?_; rintro e w2 ⟨rfl, hb2⟩
      have ow2 := Lib.hid (own_below ow1.out hb2)
      have hB2 := Lib.hid (below_seq hB1.out hb2)
      have hs2 := hb2.size
      clear ow1 hB1 hb2
      go_wp2_with (first | (at_builtin; refine wpl_append_int rfl _ _ _ rfl (by kernel_rfl) w0.heap.size _ (cs.take n) n rfl (ow2.out.alloc _) htl.out (by omega) (by simp only [World.size_alloc]; omega) w2.heap.size c rfl (by go_simp) ?_; intro v' w3 hown' hgrow hbel hloc; replace hown' := Lib.hid hown'; replace hbel := Lib.hid (hbel w0 (balloc hB2.out _)); clear hgrow hloc ow2 hB2) | fail)
      go_wp2
      go_roundw
      case rel => exact ⟨n + 1, _, by omega, by go_num, rfl, by rw [hsn.out]; exact hown'.out, hbel.out⟩
      case measure => simp [intOf]; omega
    · obtain rfl : n = l.length := by omega
      have hI : Hid (IntSl wr u cs) := Lib.hid (own_ints (by have := hown.out; rw [List.take_of_length_le (by omega)] at this; exact this) hlen.symm)
      go_wp2
      go_ret2
      exact ⟨_, rfl, hI.out, below_seq hb0.out hb.out⟩
set_option maxHeartbeats 4000000 in
theorem joint_c (us : List Int) (l : List Sp) (v : Value) (J : Sp) (w : World) (hF : FarAt w) (hl : l.length ≤ 12) (hs : SpSl w v l) (hu : Hid (l = us.map sq)) (hJ : Hid (sq (dot us (cfs l)) = J)) :
    Calls Tryd.prog 18 #[v] w fun e w' => e = .returned (.tuple #[spV J, .nilIface]) ∧ Below w.heap.size w w' := by
  have hok : ∀ z ∈ l, Ok z := by rw [hu.out]; intro z hz; obtain ⟨u, -, rfl⟩ := List.mem_map.mp hz; exact sq_ok u
  have hC := Lib.hid (fun (w : World) hF hs => coefs_c l v w hF hl hs hok)
  clear hok
  have hul : us.length = l.length := by rw [hu.out, List.length_map]
  have hue : ∀ i (h1 : i < l.length) (h2 : i < us.length), l[i] = sq us[i] := by
    intro i h1 h2
    have := hu.out
    subst this
    rw [List.getElem_map]
  replace hue := Lib.hid hue
  have hlen := cfs_len l
  have hbd := Lib.hid (cfs_bd l)
  generalize cfs l = cs at *
  obtain ⟨a, cap, rfl, h0⟩ := hs
  replace h0 := Lib.hid h0
  clear hu
  go_enter Tryd.func18, Tryd.ntmps18
  go_wp2_with fail
  refine (hC.out _ (hF.below (below_alloc _ _)) ⟨a, cap, rfl, fun hp => by obtain ⟨b, off, e, hs⟩ := h0.out hp; exact ⟨b, off, e, hs.below (below_alloc _ _)⟩⟩).mono ?_; rintro e w1 ⟨v', rfl, hi, hb1⟩
  obtain ⟨ac, cc, rfl, hi⟩ := hi
  clear hC
  have hR := Lib.hid ((SpAt.fresh w 0 0 false 23).below hb1)
  have hB1 := Lib.hid (below_seq (below_alloc w (.cells #[.int .i64 0, .int .i64 0, .bool false] 23)) hb1)
  have hF1 := Lib.hid (hF.below hB1.out)
  have h1 : Hid (0 < l.length → ∃ b off, a = some ⟨b, off, none⟩ ∧ SpotsAt w1 b off l) := Lib.hid (fun hp => by obtain ⟨b, off, e, hs⟩ := h0.out hp; exact ⟨b, off, e, hs.below hB1.out⟩)
  replace hi := Lib.hid hi
  clear h0 hF hb1
  obtain ⟨q0, q1, q2, ql⟩ := hF1.out
  go_wp2
  clear q0 q1 q2 ql
  have hO := Lib.hid (SpAt.fresh w1 0 0 true 23)
  have hB2 := Lib.hid (below_alloc w1 (.cells #[.int .i64 0, .int .i64 0, .bool true] 23))
  generalize w1.alloc (.cells #[.int .i64 0, .int .i64 0, .bool true] 23) = w2 at *
  go_loopw [21] (fun i wr => ∃ n : Nat, n ≤ l.length ∧ i = .int .i64 n ∧ SpAt wr w1.heap.size (sq (dot (us.take n) cs)) ∧ Below w1.heap.size w1 wr) (fun i _ => l.length - (intOf i).toNat)
  case atStart => exact ⟨0, Nat.zero_le _, rfl, by rw [List.take_zero, dot_nil, sq_zero]; exact hO.out, hB2.out⟩
  case round =>
    clear hO hB2
    obtain ⟨n, hn, rfl, hP, hb⟩ := hrel
    replace hP := Lib.hid hP
    replace hb := Lib.hid hb
    by_cases hlt : n < l.length
    · obtain ⟨b, off, rfl, hsr⟩ := h1.out (by omega)
      obtain ⟨bc, oc, rfl, hic⟩ := hi.out (by omega)
      have hsr := hsr.below hb.out
      have l1 := hsr.cx n hlt
      have l2 := hsr.cy n hlt
      have l3 := hsr.cf n hlt
      have hic := hic.below hb.out
      have l4 := hic.c n (by omega)
      have l5 := hic.lt
      have hA := hue.out n hlt (by omega)
      have hd := dot_snoc us cs n (by omega) (by omega)
      have hlw := hb.out.size
      have hlr := hP.out.lt
      clear hsr hic
      generalize l[n] = A at *
      generalize us[n] = u at *
      generalize cs[n] = c at *
      replace hd := Lib.hid hd
      replace hA := Lib.hid hA
      obtain ⟨C, hCe⟩ : ∃ C, sq (u * c) = C := ⟨_, rfl⟩
      obtain ⟨D, hD⟩ : ∃ D, sSum (sq (dot (us.take n) cs)) C = D := ⟨_, rfl⟩
      have oP := sq_ok (dot (us.take n) cs)
      have hDe : Hid (sq (dot (us.take (n + 1)) cs) = D) := by rw [hd.out, ← sq_add, hCe]; exact hD
      generalize sq (dot (us.take n) cs) = P at *
      have oC : Ok C := by rw [← hCe]; exact sq_ok _
      replace hCe := Lib.hid hCe
      replace hD := Lib.hid hD
      obtain ⟨p0, p1, p2, p3, p4, p5, -⟩ := hP.out
      have hFr := Lib.hid (hF1.out.below hb.out)
      have hBr := Lib.hid (below_seq hB1.out hb.out)
      go_wp2_with fail
      refine wp_region_grow_tail 8 Tryd.mixed (by kernel_rfl) ?_
      simp only [List.take_succ_cons, List.take_zero, List.drop_succ_cons, List.drop_zero]
      repeat (quiet_step (first | (go_at_call 76; exact grow_of (of_e A C u c _ (hFr.out.below (below_seq (below_alloc _ _) (Grew.h _))) hA hCe)) | (go_at_call 75; exact grow_of (sum_e P C D _ (hFr.out.below (below_seq (below_alloc _ _) (Grew.h _))) oP oC hD))))
      refine wpQuiet_nil ?_
      intro _ hw'
      obtain ⟨x, rfl⟩ := hw'
      have hx := Lib.hid (below_seq (below_alloc _ _) x.h)
      have hP2 := hP.out.below hx.out
      clear p0 p1 p2 p3 p4 p5 l1 l2 l3 l4 l5
      obtain ⟨p0, p1, p2, p3, p4, p5, p6⟩ := hP2
      go_wp2
      go_roundw
      case rel => exact ⟨n + 1, by omega, by go_num, by rw [hDe.out]; exact (hP.out.below hx.out).set3 D, set3_below (below_seq hb.out hx.out) (Nat.le_refl _)⟩
      case measure => simp [intOf]; omega
    · obtain rfl : n = l.length := by omega
      have hPJ : sq (dot (us.take l.length) cs) = J := by rw [List.take_of_length_le (by omega)]; exact hJ.out
      rw [hPJ] at hP
      obtain ⟨p0, p1, p2, p3, p4, p5, -⟩ := hP.out
      have hR2 := hR.out.below hb.out
      obtain ⟨r0, r1, r2, f0, f1, f2, -⟩ := hR2
      have hBr := Lib.hid (below_seq hB1.out hb.out)
      go_wp2
      have k := set3_cell (w := wr) (x := .int .i64 J.x) (y := .int .i64 J.y) (z := .bool J.far) r0 r1 r2
      refine bodyPost_ret (v := .tuple #[spV J, .nilIface]) (by simp [results, Tryd.results18, go_sem, k.1, k.2.1, k.2.2]) rfl ⟨rfl, set3_below hBr.out (Nat.le_refl _)⟩
end Go.Proofs.YtcphbigiooibcaaDoor
