/- Walk of bytes.Unpack. -/
import Derived.Test.YtnlaofapjldciaaDoorWs
import Derived.Test.YtnlaofapjldciaaDoorWl
import Derived.Test.YtnlaofapjldciaaDoorLf
import Derived.Deep.DeepCutAuto
import Derived.Deep.RegionWith
namespace Go.Proofs.YtnlaofapjldciaaDoor
open Go.RowKit
set_option maxRecDepth 100000
set_option linter.unusedVariables false
set_option linter.unusedSimpArgs false
def LiftIs (x : Int) (L : Sp) (E : Value) : Prop := ∀ w : World, Calls Tryd.prog 103 #[.int .i64 x] w fun e w' => e = .returned (.tuple #[spV L, E]) ∧ Below w.heap.size w w'
theorem wrap_two (c d : UInt8) : IntKind.i64.wrap (IntKind.i64.wrap (IntKind.i64.wrap (c.toNat : Int) * 256) + IntKind.i64.wrap (d.toNat : Int)) = (c.toNat : Int) * 256 + (d.toNat : Int) := by
  have := c.toNat_lt; have := d.toNat_lt
  rw [IntWalk.i64_in (c.toNat : Int) (by omega), IntWalk.i64_in (d.toNat : Int) (by omega), IntWalk.i64_in ((c.toNat : Int) * 256) (by omega), IntWalk.i64_in _ (by omega)]
/-- What Unpack makes of three bytes whose place lifts to L, with error E. -/
def unS (c0 : UInt8) (L : Sp) : Sp := if c0.toNat = 2 then sTurned L else L
set_option maxHeartbeats 2000000 in
theorem unpack_core (c0 c1 c2 : UInt8) (w : World) (L : Sp) (E R : Value) (hF : FarAt w) (h : LiftIs ((c1.toNat : Int) * 256 + (c2.toNat : Int)) L E)
    (hbad : Hid (∀ k, E = .iface 125 (.int .i64 k) → R = .tuple #[spV ⟨0, 0, false⟩, .iface 125 (.int .i64 2)]))
    (hE : Hid ((E = .nilIface ∧ Ok L) ∨ ∃ k, E = .iface 125 (.int .i64 k)))
    (hok : Hid (E = .nilIface → R = if ((sBytes (unS c0 L)).toList == [c0, c1, c2]) = true then .tuple #[spV (unS c0 L), .nilIface] else .tuple #[spV ⟨0, 0, false⟩, .iface 125 (.int .i64 2)])) :
    Calls Tryd.prog 81 #[.string ⟨#[c0, c1, c2]⟩] w fun e w' => e = .returned R ∧ Below w.heap.size w w' := by
  have hw := Lib.hid (wrap_two c1 c2)
  go_enter Tryd.func81, Tryd.ntmps81
  go_upto_region 5 with fail
  go_cut [4, 5] (fun s4 s5 wx => ∃ g : Nat, s4 = .pointer (some ⟨g, 0, none⟩) ∧ s5 = E ∧ Below w.heap.size w wx ∧ SpAt wx w.heap.size ⟨0, 0, false⟩ ∧ SpAt wx g L ∧ w.heap.size < g)
  case first =>
    go_region_with (first | (go_at_call 103; change Calls _ _ #[.int .i64 (IntKind.i64.wrap (IntKind.i64.wrap (IntKind.i64.wrap (c1.toNat : Int) * 256) + IntKind.i64.wrap (c2.toNat : Int)))] _ _; rw [hw.out]; refine (h _).mono ?_; rintro e w1 ⟨rfl, hb⟩; obtain ⟨hc, hf⟩ := bcell hb))
    all_goals
      go_wp2_with fail
      go_meet
      have hz := hb.size
      simp only [World.size_alloc, World.size_drew] at hz
      refine ⟨_, rfl, rfl, ?_, ?_, ?_, ?_⟩
      · have hB1 : Below w.heap.size w w1 := below_seq (by repeat (first | exact Below.refl _ _ | refine balloc ?_ _ | refine Below.drew ?_)) hb
        repeat (first | exact hB1 | refine balloc ?_ _ | refine below_set ?_ (by first | omega | (dsimp only; omega)) _)
      · repeat (first | exact SpAt.fresh _ _ _ _ _ | exact SpAt.fresh1 _ _ _ _ _ _ | refine SpAt.set3 (s := ⟨0, 0, false⟩) ?_ _ | refine SpAt.set3o ?_ (by omega) _ _ _ | refine SpAt.drew ?_ | refine SpAt.alloc ?_ _ | refine SpAt.below ?_ hb)
      · repeat (first | exact SpAt.fresh _ _ _ _ _ | exact SpAt.fresh1 _ _ _ _ _ _ | refine SpAt.set3 (s := ⟨0, 0, false⟩) ?_ _ | refine SpAt.set3o ?_ (by omega) _ _ _ | refine SpAt.drew ?_ | refine SpAt.alloc ?_ _ | refine SpAt.below ?_ hb)
      · omega
  case rest =>
    obtain ⟨g, rfl, rfl, hB, hr, hg, hlt⟩ := hcut
    rcases hE.out with ⟨rfl, hL⟩ | ⟨k, rfl⟩
    · have hg' := hg
      obtain ⟨g0, g1, g2, fg0, fg1, fg2, hgl⟩ := hg'
      go_wp2_with fail
      · refine (turned_k L _ hL).mono ?_; rintro e w2 ⟨rfl, hb⟩
        have hg2 := hg.below hb
        have hr2 := hr.below hb
        have hB2 := below_seq hB hb
        clear g0 g1 g2 fg0 fg1 fg2 hgl hg hr hb hB
        have hg' := hg2
        obtain ⟨g0, g1, g2, fg0, fg1, fg2, hgl⟩ := hg'
        go_wp2_with fail
        refine (bytesOf_c (sTurned L) _ (turned_ok hL).1).mono ?_; rintro e w3 ⟨rfl, hb⟩
        have hg3 := (hg2.set3 (sTurned L)).below hb
        have hr3 := (hr2.set3o (by omega) _ _ _).below hb
        have hB3 := below_seq (set3_below hB2 (by omega)) hb
        clear g0 g1 g2 fg0 fg1 fg2 hgl hg2 hr2 hb hB2
        obtain ⟨g0, g1, g2, fg0, fg1, fg2, hgl⟩ := hg3
        obtain ⟨r0, r1, r2, fr0, fr1, fr2, hrl⟩ := hr3
        have eS0 : unS c0 L = sTurned L := by
          have q : ((c0.toNat : Int) == 2) = true := by assumption
          unfold unS; rw [if_pos (by simp at q; omega)]
        have eS := Lib.hid eS0
        clear eS0
        have ho := Lib.hid (hok.out trivial)
        clear hbad hE h
        go_wp2
        · rename_i hq
          have hR : R = .tuple #[spV ⟨0, 0, false⟩, .iface 125 (.int .i64 2)] := by rw [ho.out, eS.out, if_neg (by simpa using hq)]
          have k := set3_cell (w := w3) (x := .int .i64 0) (y := .int .i64 0) (z := .bool false) r0 r1 r2
          rw [hR]
          refine bodyPost_ret (v := .tuple #[spV ⟨0, 0, false⟩, .iface 125 (.int .i64 2)]) (by simp [results, Tryd.results81, go_sem, k.1, k.2.1, k.2.2]) rfl ⟨rfl, set3_below hB3 (by omega)⟩
        · rename_i hq
          have hR : R = .tuple #[spV (sTurned L), .nilIface] := by rw [ho.out, eS.out, if_pos (by simpa using hq)]
          have k := set3_cell (w := w3) (x := .int .i64 (sTurned L).x) (y := .int .i64 (sTurned L).y) (z := .bool (sTurned L).far) r0 r1 r2
          rw [hR]
          refine bodyPost_ret (v := .tuple #[spV (sTurned L), .nilIface]) (by simp [results, Tryd.results81, go_sem, k.1, k.2.1, k.2.2]) rfl ⟨rfl, set3_below hB3 (by omega)⟩
      · refine (bytesOf_c L _ hL).mono ?_; rintro e w3 ⟨rfl, hb⟩
        have hg3 := hg.below hb
        have hr3 := hr.below hb
        have hB3 := below_seq hB hb
        clear g0 g1 g2 fg0 fg1 fg2 hgl hg hr hb hB
        obtain ⟨g0, g1, g2, fg0, fg1, fg2, hgl⟩ := hg3
        obtain ⟨r0, r1, r2, fr0, fr1, fr2, hrl⟩ := hr3
        have eS0 : unS c0 L = L := by
          have q : ((c0.toNat : Int) == 2) = false := by assumption
          unfold unS; rw [if_neg (by simp at q; omega)]
        have eS := Lib.hid eS0
        clear eS0
        have ho := Lib.hid (hok.out trivial)
        clear hbad hE h
        go_wp2
        · rename_i hq
          have hR : R = .tuple #[spV ⟨0, 0, false⟩, .iface 125 (.int .i64 2)] := by rw [ho.out, eS.out, if_neg (by simpa using hq)]
          have k := set3_cell (w := w3) (x := .int .i64 0) (y := .int .i64 0) (z := .bool false) r0 r1 r2
          rw [hR]
          refine bodyPost_ret (v := .tuple #[spV ⟨0, 0, false⟩, .iface 125 (.int .i64 2)]) (by simp [results, Tryd.results81, go_sem, k.1, k.2.1, k.2.2]) rfl ⟨rfl, set3_below hB3 (by omega)⟩
        · rename_i hq
          have hR : R = .tuple #[spV (L), .nilIface] := by rw [ho.out, eS.out, if_pos (by simpa using hq)]
          have k := set3_cell (w := w3) (x := .int .i64 (L).x) (y := .int .i64 (L).y) (z := .bool (L).far) r0 r1 r2
          rw [hR]
          refine bodyPost_ret (v := .tuple #[spV (L), .nilIface]) (by simp [results, Tryd.results81, go_sem, k.1, k.2.1, k.2.2]) rfl ⟨rfl, set3_below hB3 (by omega)⟩
    · have hR := Lib.hid (hbad.out k rfl)
      obtain ⟨r0, r1, r2, fr0, fr1, fr2, hrl⟩ := hr
      clear hg
      go_wp2
      have k := set3_cell (w := wc) (x := .int .i64 0) (y := .int .i64 0) (z := .bool false) r0 r1 r2
      rw [hR.out]
      refine bodyPost_ret (v := .tuple #[spV ⟨0, 0, false⟩, .iface 125 (.int .i64 2)]) (by simp [results, Tryd.results81, go_sem, k.1, k.2.1, k.2.2]) rfl ⟨rfl, set3_below hB (by omega)⟩
end Go.Proofs.YtnlaofapjldciaaDoor
