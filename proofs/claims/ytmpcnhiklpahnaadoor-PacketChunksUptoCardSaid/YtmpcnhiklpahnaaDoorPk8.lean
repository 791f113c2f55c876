/- Packets: the reference reads frames: walks. -/
import Derived.Test.YtmpcnhiklpahnaaDoorPk7
namespace Go.Proofs.YtmpcnhiklpahnaaDoor
open Go.RowKit

set_option maxRecDepth 100000 in
set_option maxHeartbeats 600000 in
theorem Runpack_few (A : Option Addr) (c : Nat) (l : List Nat) (h : decide ((l.length : Int) < 4) = true) (w : World) : Calls Tryd.prog 24 #[.slice A l.length c] w fun e w' => e = .returned (.tuple #[.agg #[.int .i64 0, .int .u32 0, .int .u32 0, .slice none 0 0], .int .i64 211]) ∧ Within w w' := by
  go_enter Tryd.func24, Tryd.ntmps24
  go_wp2
  refine bodyPost_ret (v := .tuple #[.agg #[.int .i64 0, .int .u32 0, .int .u32 0, .slice none 0 0], .int .i64 211]) (by simp [results, Tryd.results24, go_sem]) rfl ⟨rfl, (by repeat (first | with_reducible exact Within.refl _ | with_reducible assumption | with_reducible refine Within.alloc ?_ _ | with_reducible refine Within.drew ?_ | with_reducible refine Within.drewN ?_ _ | with_reducible refine Within.setCell ?_ (by first | (simp; done) | (simp; omega)) _ | with_reducible refine Within.trans ?_ (by assumption)))⟩

set_option maxRecDepth 100000 in
set_option maxHeartbeats 600000 in
theorem Runpack_head (A : Option Addr) (c : Nat) (l : List Nat) (h : decide ((l.length : Int) < 4) = false) (RH : Hid (∀ w, SlAt w A (u8v l) → Calls Tryd.prog 48 #[.slice A l.length c] w fun e w' => e = .returned (.bool false) ∧ w = w')) (w : World) (hr : SlAt w A (u8v l)) : Calls Tryd.prog 24 #[.slice A l.length c] w fun e w' => e = .returned (.tuple #[.agg #[.int .i64 0, .int .u32 0, .int .u32 0, .slice none 0 0], .int .i64 211]) ∧ Within w w' := by
  have HR := Lib.hid hr; clear hr
  go_enter Tryd.func24, Tryd.ntmps24
  go_wp2_with fail
  refine (RH.out _ (HR.out.of (by repeat (first | with_reducible exact Within.refl _ | with_reducible assumption | with_reducible refine Within.alloc ?_ _ | with_reducible refine Within.drew ?_ | with_reducible refine Within.drewN ?_ _ | with_reducible refine Within.setCell ?_ (by first | (simp; done) | (simp; omega)) _ | with_reducible refine Within.trans ?_ (by assumption))))).mono ?_; rintro e1 w1 ⟨rfl, rfl⟩
  go_wp2
  refine bodyPost_ret (v := .tuple #[.agg #[.int .i64 0, .int .u32 0, .int .u32 0, .slice none 0 0], .int .i64 211]) (by simp [results, Tryd.results24, go_sem]) rfl ⟨rfl, (by repeat (first | with_reducible exact Within.refl _ | with_reducible assumption | with_reducible refine Within.alloc ?_ _ | with_reducible refine Within.drew ?_ | with_reducible refine Within.drewN ?_ _ | with_reducible refine Within.setCell ?_ (by first | (simp; done) | (simp; omega)) _ | with_reducible refine Within.trans ?_ (by assumption)))⟩

set_option maxRecDepth 100000 in
set_option maxHeartbeats 600000 in
theorem Runpack_long (ad : Addr) (c N K : Nat) (l : List Nat) (h : decide ((N : Int) < 4) = false) (l3 : (3 : Int) < (N : Int)) (n : Int) (hn : ((N : Int) != n) = true) (RH : Hid (∀ w, SlAt w (some ad) (u8v l) → Calls Tryd.prog 48 #[.slice (some ad) N c] w fun e w' => e = .returned (.bool true) ∧ w = w')) (RS : Hid (∀ w, Calls Tryd.prog 49 #[.int .u8 (K : Int)] w fun e w' => e = .returned (.int .i64 n) ∧ w = w')) (h3 : ∀ w, SlAt w (some ad) (u8v l) → w.cell? ⟨ad.block, ad.off + 3, none⟩ = some (.int .u8 (K : Int))) (w : World) (hr : SlAt w (some ad) (u8v l)) : Calls Tryd.prog 24 #[.slice (some ad) N c] w fun e w' => e = .returned (.tuple #[.agg #[.int .i64 0, .int .u32 0, .int .u32 0, .slice none 0 0], .int .i64 211]) ∧ Within w w' := by
  have HR := Lib.hid hr; clear hr
  have HH3 := Lib.hid h3; clear h3
  go_enter Tryd.func24, Tryd.ntmps24
  go_wp2_with fail
  have hw1 := HR.out.of ((Within.refl w).alloc (.cells #[.int .i64 0, .int .u32 0, .int .u32 0, .slice none 0 0] 29))
  have k3 := HH3.out _ hw1
  refine (RH.out _ hw1).mono ?_; rintro e1 w1 ⟨rfl, rfl⟩
  go_wp2_with fail
  refine (RS.out _).mono ?_; rintro e2 w2 ⟨rfl, rfl⟩
  go_wp2
  refine bodyPost_ret (v := .tuple #[.agg #[.int .i64 0, .int .u32 0, .int .u32 0, .slice none 0 0], .int .i64 211]) (by simp [results, Tryd.results24, go_sem]) rfl ⟨rfl, (by repeat (first | with_reducible exact Within.refl _ | with_reducible assumption | with_reducible refine Within.alloc ?_ _ | with_reducible refine Within.drew ?_ | with_reducible refine Within.drewN ?_ _ | with_reducible refine Within.setCell ?_ (by first | (simp; done) | (simp; omega)) _ | with_reducible refine Within.trans ?_ (by assumption)))⟩

end Go.Proofs.YtmpcnhiklpahnaaDoor
