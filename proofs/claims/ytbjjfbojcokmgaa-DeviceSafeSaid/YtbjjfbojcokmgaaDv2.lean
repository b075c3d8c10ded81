/- Layer 7: the device's functions that only look (gendv2.py prints it). -/
import Derived.Test.YtbjjfbojcokmgaaDv1
namespace Go.Proofs.Ytbjjfbojcokmgaa.Dv
open Go.RowKit Base
set_option linter.unusedVariables false
set_option linter.unusedSimpArgs false

set_option maxHeartbeats 400000 in
theorem there_yes (d : Nat) (A : Option Addr) (n c : Nat) (pv : Value) (f r s : Int) (o : Bool) (w : World) (hB : Box w d 56 #[.slice A (n : Nat) c, pv, .int .i64 f, .int .i64 r, .int .i64 s, .bool o]) (hn : 0 < n) (hm : n ≤ 1000000) :
    Calls Try.prog 35 #[.pointer (some ⟨d, 0, none⟩)] w fun e w' => e = .returned (.bool true) ∧ w = w' := by
  obtain ⟨⟨k0, k1, k2, k3, k4, k5⟩, _⟩ := Box.six hB
  clear hB
  go_enter Try.func35, Try.ntmps35
  go_wp2_with fail
  go_ret
  exact ⟨rfl, rfl⟩
set_option maxHeartbeats 400000 in
theorem there_no (d : Nat) (A : Option Addr) (n c : Nat) (pv : Value) (f r s : Int) (o : Bool) (w : World) (hB : Box w d 56 #[.slice A (n : Nat) c, pv, .int .i64 f, .int .i64 r, .int .i64 s, .bool o]) (hn : n = 0) :
    Calls Try.prog 35 #[.pointer (some ⟨d, 0, none⟩)] w fun e w' => e = .returned (.bool false) ∧ w = w' := by
  obtain ⟨⟨k0, k1, k2, k3, k4, k5⟩, _⟩ := Box.six hB
  clear hB
  subst hn
  go_enter Try.func35, Try.ntmps35
  go_wp2_with fail
  go_ret
  exact ⟨rfl, rfl⟩
set_option maxHeartbeats 400000 in
theorem there_nil (w : World)  :
    Calls Try.prog 35 #[.pointer none] w fun e w' => e = .returned (.bool false) ∧ w = w' := by
  go_enter Try.func35, Try.ntmps35
  go_wp2_with fail
  go_ret
  exact ⟨rfl, rfl⟩
set_option maxHeartbeats 400000 in
theorem size_yes (d : Nat) (A : Option Addr) (n c : Nat) (pv : Value) (f r s : Int) (o : Bool) (w : World) (hB : Box w d 56 #[.slice A (n : Nat) c, pv, .int .i64 f, .int .i64 r, .int .i64 s, .bool o]) (hn : 0 < n) (hm : n ≤ 1000000) :
    Calls Try.prog 21 #[.pointer (some ⟨d, 0, none⟩)] w fun e w' => e = .returned (.int .i64 n) ∧ w = w' := by
  have HT := Lib.hid (there_yes d A n c pv f r s o w hB hn hm)
  obtain ⟨⟨k0, k1, k2, k3, k4, k5⟩, _⟩ := Box.six hB
  clear hB
  go_enter Try.func21, Try.ntmps21
  go_wp2_with fail
  refine HT.out.mono ?_
  rintro e w' ⟨rfl, rfl⟩
  go_wp2_with fail
  go_ret
  exact ⟨rfl, rfl⟩
set_option maxHeartbeats 400000 in
theorem reads_yes (d : Nat) (A : Option Addr) (n c : Nat) (pv : Value) (f r s : Int) (o : Bool) (w : World) (hB : Box w d 56 #[.slice A (n : Nat) c, pv, .int .i64 f, .int .i64 r, .int .i64 s, .bool o]) (hn : 0 < n) (hm : n ≤ 1000000) :
    Calls Try.prog 19 #[.pointer (some ⟨d, 0, none⟩)] w fun e w' => e = .returned (.int .i64 r) ∧ w = w' := by
  have HT := Lib.hid (there_yes d A n c pv f r s o w hB hn hm)
  obtain ⟨⟨k0, k1, k2, k3, k4, k5⟩, _⟩ := Box.six hB
  clear hB
  go_enter Try.func19, Try.ntmps19
  go_wp2_with fail
  refine HT.out.mono ?_
  rintro e w' ⟨rfl, rfl⟩
  go_wp2_with fail
  go_ret
  exact ⟨rfl, rfl⟩
set_option maxHeartbeats 400000 in
theorem steps_yes (d : Nat) (A : Option Addr) (n c : Nat) (pv : Value) (f r s : Int) (o : Bool) (w : World) (hB : Box w d 56 #[.slice A (n : Nat) c, pv, .int .i64 f, .int .i64 r, .int .i64 s, .bool o]) (hn : 0 < n) (hm : n ≤ 1000000) :
    Calls Try.prog 20 #[.pointer (some ⟨d, 0, none⟩)] w fun e w' => e = .returned (.int .i64 s) ∧ w = w' := by
  have HT := Lib.hid (there_yes d A n c pv f r s o w hB hn hm)
  obtain ⟨⟨k0, k1, k2, k3, k4, k5⟩, _⟩ := Box.six hB
  clear hB
  go_enter Try.func20, Try.ntmps20
  go_wp2_with fail
  refine HT.out.mono ?_
  rintro e w' ⟨rfl, rfl⟩
  go_wp2_with fail
  go_ret
  exact ⟨rfl, rfl⟩
set_option maxHeartbeats 400000 in
theorem off_yes (d : Nat) (A : Option Addr) (n c : Nat) (pv : Value) (f r s : Int) (o : Bool) (w : World) (hB : Box w d 56 #[.slice A (n : Nat) c, pv, .int .i64 f, .int .i64 r, .int .i64 s, .bool o]) (hn : 0 < n) (hm : n ≤ 1000000) :
    Calls Try.prog 18 #[.pointer (some ⟨d, 0, none⟩)] w fun e w' => e = .returned (.bool o) ∧ w = w' := by
  have HT := Lib.hid (there_yes d A n c pv f r s o w hB hn hm)
  obtain ⟨⟨k0, k1, k2, k3, k4, k5⟩, _⟩ := Box.six hB
  clear hB
  go_enter Try.func18, Try.ntmps18
  go_wp2_with fail
  refine HT.out.mono ?_
  rintro e w' ⟨rfl, rfl⟩
  go_wp2_with fail
  go_ret
  exact ⟨rfl, rfl⟩
set_option maxHeartbeats 400000 in
theorem size_zero (d : Nat) (A : Option Addr) (n c : Nat) (pv : Value) (f r s : Int) (o : Bool) (w : World) (hB : Box w d 56 #[.slice A (n : Nat) c, pv, .int .i64 f, .int .i64 r, .int .i64 s, .bool o]) (hn : n = 0)  :
    Calls Try.prog 21 #[.pointer (some ⟨d, 0, none⟩)] w fun e w' => e = .returned (.int .i64 0) ∧ w = w' := by
  have HT := Lib.hid (there_no d A n c pv f r s o w hB hn)
  go_enter Try.func21, Try.ntmps21
  go_wp2_with fail
  refine HT.out.mono ?_
  rintro e w' ⟨rfl, rfl⟩
  go_wp2_with fail
  go_ret
  exact ⟨rfl, rfl⟩
set_option maxHeartbeats 400000 in
theorem size_nil (w : World)  :
    Calls Try.prog 21 #[.pointer none] w fun e w' => e = .returned (.int .i64 0) ∧ w = w' := by
  have HT := Lib.hid (there_nil w)
  go_enter Try.func21, Try.ntmps21
  go_wp2_with fail
  refine HT.out.mono ?_
  rintro e w' ⟨rfl, rfl⟩
  go_wp2_with fail
  go_ret
  exact ⟨rfl, rfl⟩
set_option maxHeartbeats 400000 in
theorem reads_zero (d : Nat) (A : Option Addr) (n c : Nat) (pv : Value) (f r s : Int) (o : Bool) (w : World) (hB : Box w d 56 #[.slice A (n : Nat) c, pv, .int .i64 f, .int .i64 r, .int .i64 s, .bool o]) (hn : n = 0)  :
    Calls Try.prog 19 #[.pointer (some ⟨d, 0, none⟩)] w fun e w' => e = .returned (.int .i64 0) ∧ w = w' := by
  have HT := Lib.hid (there_no d A n c pv f r s o w hB hn)
  go_enter Try.func19, Try.ntmps19
  go_wp2_with fail
  refine HT.out.mono ?_
  rintro e w' ⟨rfl, rfl⟩
  go_wp2_with fail
  go_ret
  exact ⟨rfl, rfl⟩
set_option maxHeartbeats 400000 in
theorem reads_nil (w : World)  :
    Calls Try.prog 19 #[.pointer none] w fun e w' => e = .returned (.int .i64 0) ∧ w = w' := by
  have HT := Lib.hid (there_nil w)
  go_enter Try.func19, Try.ntmps19
  go_wp2_with fail
  refine HT.out.mono ?_
  rintro e w' ⟨rfl, rfl⟩
  go_wp2_with fail
  go_ret
  exact ⟨rfl, rfl⟩
set_option maxHeartbeats 400000 in
theorem steps_zero (d : Nat) (A : Option Addr) (n c : Nat) (pv : Value) (f r s : Int) (o : Bool) (w : World) (hB : Box w d 56 #[.slice A (n : Nat) c, pv, .int .i64 f, .int .i64 r, .int .i64 s, .bool o]) (hn : n = 0)  :
    Calls Try.prog 20 #[.pointer (some ⟨d, 0, none⟩)] w fun e w' => e = .returned (.int .i64 0) ∧ w = w' := by
  have HT := Lib.hid (there_no d A n c pv f r s o w hB hn)
  go_enter Try.func20, Try.ntmps20
  go_wp2_with fail
  refine HT.out.mono ?_
  rintro e w' ⟨rfl, rfl⟩
  go_wp2_with fail
  go_ret
  exact ⟨rfl, rfl⟩
set_option maxHeartbeats 400000 in
theorem steps_nil (w : World)  :
    Calls Try.prog 20 #[.pointer none] w fun e w' => e = .returned (.int .i64 0) ∧ w = w' := by
  have HT := Lib.hid (there_nil w)
  go_enter Try.func20, Try.ntmps20
  go_wp2_with fail
  refine HT.out.mono ?_
  rintro e w' ⟨rfl, rfl⟩
  go_wp2_with fail
  go_ret
  exact ⟨rfl, rfl⟩
set_option maxHeartbeats 400000 in
theorem off_zero (d : Nat) (A : Option Addr) (n c : Nat) (pv : Value) (f r s : Int) (o : Bool) (w : World) (hB : Box w d 56 #[.slice A (n : Nat) c, pv, .int .i64 f, .int .i64 r, .int .i64 s, .bool o]) (hn : n = 0)  :
    Calls Try.prog 18 #[.pointer (some ⟨d, 0, none⟩)] w fun e w' => e = .returned (.bool false) ∧ w = w' := by
  have HT := Lib.hid (there_no d A n c pv f r s o w hB hn)
  go_enter Try.func18, Try.ntmps18
  go_wp2_with fail
  refine HT.out.mono ?_
  rintro e w' ⟨rfl, rfl⟩
  go_wp2_with fail
  go_ret
  exact ⟨rfl, rfl⟩
set_option maxHeartbeats 400000 in
theorem off_nil (w : World)  :
    Calls Try.prog 18 #[.pointer none] w fun e w' => e = .returned (.bool false) ∧ w = w' := by
  have HT := Lib.hid (there_nil w)
  go_enter Try.func18, Try.ntmps18
  go_wp2_with fail
  refine HT.out.mono ?_
  rintro e w' ⟨rfl, rfl⟩
  go_wp2_with fail
  go_ret
  exact ⟨rfl, rfl⟩
set_option maxHeartbeats 400000 in
theorem boot_zero (d : Nat) (A : Option Addr) (n c : Nat) (pv : Value) (f r s : Int) (o : Bool) (w : World) (hB : Box w d 56 #[.slice A (n : Nat) c, pv, .int .i64 f, .int .i64 r, .int .i64 s, .bool o]) (hn : n = 0)  :
    Calls Try.prog 28 #[.pointer (some ⟨d, 0, none⟩)] w fun e w' => e = .returned (.int .i64 1) ∧ w = w' := by
  have HT := Lib.hid (there_no d A n c pv f r s o w hB hn)
  go_enter Try.func28, Try.ntmps28
  go_wp2_with fail
  refine HT.out.mono ?_
  rintro e w' ⟨rfl, rfl⟩
  go_wp2_with fail
  go_ret
  exact ⟨rfl, rfl⟩
set_option maxHeartbeats 400000 in
theorem boot_nil (w : World)  :
    Calls Try.prog 28 #[.pointer none] w fun e w' => e = .returned (.int .i64 1) ∧ w = w' := by
  have HT := Lib.hid (there_nil w)
  go_enter Try.func28, Try.ntmps28
  go_wp2_with fail
  refine HT.out.mono ?_
  rintro e w' ⟨rfl, rfl⟩
  go_wp2_with fail
  go_ret
  exact ⟨rfl, rfl⟩
set_option maxHeartbeats 400000 in
theorem fuse_zero (d : Nat) (A : Option Addr) (n c : Nat) (pv : Value) (f r s : Int) (o : Bool) (w : World) (hB : Box w d 56 #[.slice A (n : Nat) c, pv, .int .i64 f, .int .i64 r, .int .i64 s, .bool o]) (hn : n = 0) (i : Value) :
    Calls Try.prog 27 #[.pointer (some ⟨d, 0, none⟩), i] w fun e w' => e = .returned (.int .i64 1) ∧ w = w' := by
  have HT := Lib.hid (there_no d A n c pv f r s o w hB hn)
  go_enter Try.func27, Try.ntmps27
  go_wp2_with fail
  refine HT.out.mono ?_
  rintro e w' ⟨rfl, rfl⟩
  go_wp2_with fail
  go_ret
  exact ⟨rfl, rfl⟩
set_option maxHeartbeats 400000 in
theorem fuse_nil (w : World) (i : Value) :
    Calls Try.prog 27 #[.pointer none, i] w fun e w' => e = .returned (.int .i64 1) ∧ w = w' := by
  have HT := Lib.hid (there_nil w)
  go_enter Try.func27, Try.ntmps27
  go_wp2_with fail
  refine HT.out.mono ?_
  rintro e w' ⟨rfl, rfl⟩
  go_wp2_with fail
  go_ret
  exact ⟨rfl, rfl⟩
set_option maxHeartbeats 400000 in
theorem ready_zero (d : Nat) (A : Option Addr) (n c : Nat) (pv : Value) (f r s : Int) (o : Bool) (w : World) (hB : Box w d 56 #[.slice A (n : Nat) c, pv, .int .i64 f, .int .i64 r, .int .i64 s, .bool o]) (hn : n = 0) (i : Value) :
    Calls Try.prog 32 #[.pointer (some ⟨d, 0, none⟩), i] w fun e w' => e = .returned (.int .i64 1) ∧ w = w' := by
  have HT := Lib.hid (there_no d A n c pv f r s o w hB hn)
  go_enter Try.func32, Try.ntmps32
  go_wp2_with fail
  refine HT.out.mono ?_
  rintro e w' ⟨rfl, rfl⟩
  go_wp2_with fail
  go_ret
  exact ⟨rfl, rfl⟩
set_option maxHeartbeats 400000 in
theorem ready_nil (w : World) (i : Value) :
    Calls Try.prog 32 #[.pointer none, i] w fun e w' => e = .returned (.int .i64 1) ∧ w = w' := by
  have HT := Lib.hid (there_nil w)
  go_enter Try.func32, Try.ntmps32
  go_wp2_with fail
  refine HT.out.mono ?_
  rintro e w' ⟨rfl, rfl⟩
  go_wp2_with fail
  go_ret
  exact ⟨rfl, rfl⟩
set_option maxHeartbeats 400000 in
theorem cut_zero (d : Nat) (A : Option Addr) (n c : Nat) (pv : Value) (f r s : Int) (o : Bool) (w : World) (hB : Box w d 56 #[.slice A (n : Nat) c, pv, .int .i64 f, .int .i64 r, .int .i64 s, .bool o]) (hn : n = 0) (x y z : Value) :
    Calls Try.prog 14 #[.pointer (some ⟨d, 0, none⟩), x, y, z] w fun e w' => e = .returned (.int .i64 1) ∧ w = w' := by
  have HT := Lib.hid (there_no d A n c pv f r s o w hB hn)
  go_enter Try.func14, Try.ntmps14
  go_wp2_with fail
  refine HT.out.mono ?_
  rintro e w' ⟨rfl, rfl⟩
  go_wp2_with fail
  go_ret
  exact ⟨rfl, rfl⟩
set_option maxHeartbeats 400000 in
theorem cut_nil (w : World) (x y z : Value) :
    Calls Try.prog 14 #[.pointer none, x, y, z] w fun e w' => e = .returned (.int .i64 1) ∧ w = w' := by
  have HT := Lib.hid (there_nil w)
  go_enter Try.func14, Try.ntmps14
  go_wp2_with fail
  refine HT.out.mono ?_
  rintro e w' ⟨rfl, rfl⟩
  go_wp2_with fail
  go_ret
  exact ⟨rfl, rfl⟩
set_option maxHeartbeats 400000 in
theorem read_zero (d : Nat) (A : Option Addr) (n c : Nat) (pv : Value) (f r s : Int) (o : Bool) (w : World) (hB : Box w d 56 #[.slice A (n : Nat) c, pv, .int .i64 f, .int .i64 r, .int .i64 s, .bool o]) (hn : n = 0) (i : Value) :
    Calls Try.prog 26 #[.pointer (some ⟨d, 0, none⟩), i] w fun e w' => e = .returned (.tuple #[.string ⟨#[]⟩, .int .i64 1]) ∧ w = w' := by
  have HT := Lib.hid (ready_zero d A n c pv f r s o w hB hn i)
  go_enter Try.func26, Try.ntmps26
  go_wp2_with fail
  refine HT.out.mono ?_
  rintro e w' ⟨rfl, rfl⟩
  go_wp2_with fail
  go_ret2
  exact ⟨rfl, rfl⟩
set_option maxHeartbeats 400000 in
theorem read_nil (w : World) (i : Value) :
    Calls Try.prog 26 #[.pointer none, i] w fun e w' => e = .returned (.tuple #[.string ⟨#[]⟩, .int .i64 1]) ∧ w = w' := by
  have HT := Lib.hid (ready_nil w i)
  go_enter Try.func26, Try.ntmps26
  go_wp2_with fail
  refine HT.out.mono ?_
  rintro e w' ⟨rfl, rfl⟩
  go_wp2_with fail
  go_ret2
  exact ⟨rfl, rfl⟩
set_option maxHeartbeats 400000 in
theorem write_zero (d : Nat) (A : Option Addr) (n c : Nat) (pv : Value) (f r s : Int) (o : Bool) (w : World) (hB : Box w d 56 #[.slice A (n : Nat) c, pv, .int .i64 f, .int .i64 r, .int .i64 s, .bool o]) (hn : n = 0) (i j : Value) :
    Calls Try.prog 10 #[.pointer (some ⟨d, 0, none⟩), i, j] w fun e w' => e = .returned (.int .i64 1) ∧ w = w' := by
  have HT := Lib.hid (ready_zero d A n c pv f r s o w hB hn i)
  go_enter Try.func10, Try.ntmps10
  go_wp2_with fail
  refine HT.out.mono ?_
  rintro e w' ⟨rfl, rfl⟩
  go_wp2_with fail
  go_ret
  exact ⟨rfl, rfl⟩
set_option maxHeartbeats 400000 in
theorem write_nil (w : World) (i j : Value) :
    Calls Try.prog 10 #[.pointer none, i, j] w fun e w' => e = .returned (.int .i64 1) ∧ w = w' := by
  have HT := Lib.hid (ready_nil w i)
  go_enter Try.func10, Try.ntmps10
  go_wp2_with fail
  refine HT.out.mono ?_
  rintro e w' ⟨rfl, rfl⟩
  go_wp2_with fail
  go_ret
  exact ⟨rfl, rfl⟩
set_option maxHeartbeats 400000 in
theorem sync_zero (d : Nat) (A : Option Addr) (n c : Nat) (pv : Value) (f r s : Int) (o : Bool) (w : World) (hB : Box w d 56 #[.slice A (n : Nat) c, pv, .int .i64 f, .int .i64 r, .int .i64 s, .bool o]) (hn : n = 0)  :
    Calls Try.prog 12 #[.pointer (some ⟨d, 0, none⟩)] w fun e w' => e = .returned (.int .i64 1) ∧ w = w' := by
  have HT := Lib.hid (ready_zero d A n c pv f r s o w hB hn (.int .i64 0))
  go_enter Try.func12, Try.ntmps12
  go_wp2_with fail
  refine HT.out.mono ?_
  rintro e w' ⟨rfl, rfl⟩
  go_wp2_with fail
  go_ret
  exact ⟨rfl, rfl⟩
set_option maxHeartbeats 400000 in
theorem sync_nil (w : World)  :
    Calls Try.prog 12 #[.pointer none] w fun e w' => e = .returned (.int .i64 1) ∧ w = w' := by
  have HT := Lib.hid (ready_nil w (.int .i64 0))
  go_enter Try.func12, Try.ntmps12
  go_wp2_with fail
  refine HT.out.mono ?_
  rintro e w' ⟨rfl, rfl⟩
  go_wp2_with fail
  go_ret
  exact ⟨rfl, rfl⟩
set_option maxHeartbeats 400000 in
theorem ready_off (d : Nat) (A : Option Addr) (n c : Nat) (pv : Value) (f r s : Int) (w : World) (hB : Box w d 56 #[.slice A (n : Nat) c, pv, .int .i64 f, .int .i64 r, .int .i64 s, .bool true]) (hn : 0 < n) (hm : n ≤ 1000000) (i : Int)  :
    Calls Try.prog 32 #[.pointer (some ⟨d, 0, none⟩), .int .i64 i] w fun e w' => e = .returned (.int .i64 8) ∧ w = w' := by
  have HT := Lib.hid (there_yes d A n c pv f r s _ w hB hn hm)
  obtain ⟨⟨k0, k1, k2, k3, k4, k5⟩, _⟩ := Box.six hB
  clear hB
  go_enter Try.func32, Try.ntmps32
  go_wp2_with fail
  refine HT.out.mono ?_
  rintro e w' ⟨rfl, rfl⟩
  go_wp2_with fail
  go_ret
  exact ⟨rfl, rfl⟩
set_option maxHeartbeats 400000 in
theorem ready_neg (d : Nat) (A : Option Addr) (n c : Nat) (pv : Value) (f r s : Int) (w : World) (hB : Box w d 56 #[.slice A (n : Nat) c, pv, .int .i64 f, .int .i64 r, .int .i64 s, .bool false]) (hn : 0 < n) (hm : n ≤ 1000000) (i : Int) (hi : i < 0) :
    Calls Try.prog 32 #[.pointer (some ⟨d, 0, none⟩), .int .i64 i] w fun e w' => e = .returned (.int .i64 9) ∧ w = w' := by
  have HT := Lib.hid (there_yes d A n c pv f r s _ w hB hn hm)
  obtain ⟨⟨k0, k1, k2, k3, k4, k5⟩, _⟩ := Box.six hB
  clear hB
  have hd : decide (i < 0) = true := by simpa using hi
  go_enter Try.func32, Try.ntmps32
  go_wp2_with fail
  refine HT.out.mono ?_
  rintro e w' ⟨rfl, rfl⟩
  go_wp2_with fail
  go_ret
  exact ⟨rfl, rfl⟩
set_option maxHeartbeats 400000 in
theorem ready_big (d : Nat) (A : Option Addr) (n c : Nat) (pv : Value) (f r s : Int) (w : World) (hB : Box w d 56 #[.slice A (n : Nat) c, pv, .int .i64 f, .int .i64 r, .int .i64 s, .bool false]) (hn : 0 < n) (hm : n ≤ 1000000) (i : Int) (hi : (n : Int) ≤ i) :
    Calls Try.prog 32 #[.pointer (some ⟨d, 0, none⟩), .int .i64 i] w fun e w' => e = .returned (.int .i64 9) ∧ w = w' := by
  have HT := Lib.hid (there_yes d A n c pv f r s _ w hB hn hm)
  obtain ⟨⟨k0, k1, k2, k3, k4, k5⟩, _⟩ := Box.six hB
  clear hB
  have hd : decide (i < 0) = false := by simp; omega
  have hd2 : decide ((n : Int) ≤ i) = true := by simpa using hi
  go_enter Try.func32, Try.ntmps32
  go_wp2_with fail
  refine HT.out.mono ?_
  rintro e w' ⟨rfl, rfl⟩
  go_wp2_with fail
  go_ret
  exact ⟨rfl, rfl⟩
set_option maxHeartbeats 400000 in
theorem ready_yes (d : Nat) (A : Option Addr) (n c : Nat) (pv : Value) (f r s : Int) (w : World) (hB : Box w d 56 #[.slice A (n : Nat) c, pv, .int .i64 f, .int .i64 r, .int .i64 s, .bool false]) (hn : 0 < n) (hm : n ≤ 1000000) (i : Int) (h0 : 0 ≤ i) (hi : i < (n : Int)) :
    Calls Try.prog 32 #[.pointer (some ⟨d, 0, none⟩), .int .i64 i] w fun e w' => e = .returned (.int .i64 0) ∧ w = w' := by
  have HT := Lib.hid (there_yes d A n c pv f r s _ w hB hn hm)
  obtain ⟨⟨k0, k1, k2, k3, k4, k5⟩, _⟩ := Box.six hB
  clear hB
  have hd : decide (i < 0) = false := by simp; omega
  have hd2 : decide ((n : Int) ≤ i) = false := by simp; omega
  go_enter Try.func32, Try.ntmps32
  go_wp2_with fail
  refine HT.out.mono ?_
  rintro e w' ⟨rfl, rfl⟩
  go_wp2_with fail
  go_ret
  exact ⟨rfl, rfl⟩

end Go.Proofs.Ytbjjfbojcokmgaa.Dv
