/- treadlelaw12.FaultTells, its walk. Conditions: errors.errorType, internal/strconv.uint64pow10, treadlelaw12.plain hold what the program lays. -/
import Derived.Test.YtgdjbfcdkibdbaaDoorTellsB
import Derived.Deep.RegionHeld3
namespace Go.Proofs.YtgdjbfcdkibdbaaDoor
open Go Go.RowKit Go.Sort
set_option maxRecDepth 100000
set_option maxHeartbeats 4000000
theorem cells3 {w : World} {b : Nat} {x y z : Value} {T : TypeId} (h : Blk w b #[x, y, z] T) : w.cell? ⟨b, 0, none⟩ = some x ∧ w.cell? ⟨b, 1, none⟩ = some y ∧ w.cell? ⟨b, 2, none⟩ = some z := ⟨h.cellAt 0 rfl, h.cellAt 1 rfl, h.cellAt 2 rfl⟩
theorem faultTells_law (k n0 number : Int) (v0 : Value) (zs0 : List Int) (w : World) (a : Addr) (k0 : -9223372036854775808 ≤ k) (k1 : k ≤ 9223372036854775807) (hn0 : F64 n0) (hnum : F64 number) (hv0 : Ints w v0 zs0) (hz0 : ∀ m ∈ zs0, F64 m)
    (hg : ErrType w) (hl : 1 < w.heap.size) (hp : Pow w) (hpg : PlainG w a) (hpa : PlainAt w (some (.plain a))) :
    Calls Tryd.prog 4 #[.agg #[.int .i64 k, .int .i64 n0, v0], .int .i64 number] w fun e w' => e = .returned (.bool true) ∧ Same w w' := by
  obtain ⟨p0, cap0, rfl⟩ := hv0.slice
  have HV := Lib.hid hv0
  have HZ := Lib.hid hz0
  clear hv0 hz0
  go_enter Tryd.func4, Tryd.ntmps4
  go_wp2_with fail
  have s1 : Same w (w.alloc (.cells #[.int .i64 k, .int .i64 n0, .slice p0 zs0.length cap0] 43)) := (Chg.refl _ _).alloc _
  have kd : Blk (w.alloc (.cells #[.int .i64 k, .int .i64 n0, .slice p0 zs0.length cap0] 43)) w.heap.size #[.int .i64 k, .int .i64 n0, .slice p0 zs0.length cap0] 43 := Blk.new _ _ _
  generalize (w.alloc (.cells #[.int .i64 k, .int .i64 n0, .slice p0 zs0.length cap0] 43)) = w1 at *
  refine (brought_any w1 k n0 _ zs0 k0 k1 hn0 (HV.out.same s1) HZ.out).mono ?_
  rintro e w2 ⟨K, n, v, zs, rfl, hD, s2, hsa, hne⟩
  have kd2 := s2.blk kd (fun x => x)
  obtain ⟨p, cap, rfl⟩ := hD.i.slice
  have d0 := kd2.cellAt 0 (v := .int .i64 k) rfl
  have d1 := kd2.cellAt 1 (v := .int .i64 n0) rfl
  have d2 := kd2.cellAt 2 (v := .slice p0 zs0.length cap0) rfl
  have f0 := kd2.free 0
  have f1 := kd2.free 1
  have f2 := kd2.free 2
  go_wp2_with fail
  have kd3 : Blk (((w2.setCell ⟨w.heap.size, 0, none⟩ (.int .i64 K)).setCell ⟨w.heap.size, 1, none⟩ (.int .i64 n)).setCell ⟨w.heap.size, 2, none⟩ (.slice p zs.length cap)) w.heap.size #[.int .i64 K, .int .i64 n, .slice p zs.length cap] 43 := by
    have := ((kd2.set 0 (.int .i64 K)).set 1 (.int .i64 n)).set 2 (.slice p zs.length cap)
    simpa using this
  have g3 : Chg (fun k => k = w.heap.size) w2 (((w2.setCell ⟨w.heap.size, 0, none⟩ (.int .i64 K)).setCell ⟨w.heap.size, 1, none⟩ (.int .i64 n)).setCell ⟨w.heap.size, 2, none⟩ (.slice p zs.length cap)) :=
    Chg.setCell (S := fun k => k = w.heap.size) (p := ⟨w.heap.size, 2, none⟩) (chg_two w2 w.heap.size _ _) (.inl rfl) _
  have s3 := (s1.trans s2).trans' g3 (fun i hi e => by omega)
  have hI3 : Ints (((w2.setCell ⟨w.heap.size, 0, none⟩ (.int .i64 K)).setCell ⟨w.heap.size, 1, none⟩ (.int .i64 n)).setCell ⟨w.heap.size, 2, none⟩ (.slice p zs.length cap)) (.slice p zs.length cap) zs := hD.i.chg g3 (fun aa nn cc hz e => by
    obtain ⟨n', c', e2⟩ := hsa aa nn cc e
    obtain ⟨b, off, cap', e3, hb, _⟩ := HV.out.at (hne hz)
    rw [e3] at e2
    cases e2
    show ¬ b = w.heap.size
    omega)
  generalize (((w2.setCell ⟨w.heap.size, 0, none⟩ (.int .i64 K)).setCell ⟨w.heap.size, 1, none⟩ (.int .i64 n)).setCell ⟨w.heap.size, 2, none⟩ (.slice p zs.length cap)) = w3 at *
  have hD3 : Descr w3 K n (.slice p zs.length cap) zs := ⟨hD.k0, hD.k8, hD.n64, hI3, hD.len, hD.z64, hD.z0, hD.z5⟩
  clear kd kd2 d0 d1 d2 f0 f1 f2 g3 hD hsa hne s1 s2 hI3
  by_cases hK0 : K = 0
  · subst hK0
    obtain ⟨rfl, hv, rfl⟩ := hD3.z0 rfl
    obtain ⟨rfl, rfl⟩ : p = none ∧ cap = 0 := by simpa using hv
    simp only [List.length_nil] at *
    clear hv hD3
    have hI0 : ∀ W, Ints W (.slice none 0 0) [] := fun W => ⟨by simp, .inl ⟨none, 0, rfl, rfl⟩⟩
    refine (make_0 w3).mono ?_
    rintro e w4 ⟨rfl, s4⟩
    have kd4 := s4.blk kd3 (fun x => x)
    have m4 := s3.trans s4
    clear kd3 s3 s4
    have CL : ∀ V W, Same w V → Same V W → Calls Tryd.prog 13 #[.nilIface] W fun e W' => e = .returned (.int .i64 0) ∧ Same V W' := fun V W hV h =>
      (class_nil W).mono fun _ _ ⟨a, b⟩ => ⟨a, h.trans b⟩
    have RC : ∀ V W, Same w V → Same V W → Calls Tryd.prog 19 #[.agg #[.int .i64 0, .int .i64 0, .slice none 0 0]] W fun e W' => e = .returned (.int .i64 0) ∧ Same V W' := fun V W hV h =>
      (refClass_ok W 0 0 _ (by omega) (by omega)).mono fun _ _ ⟨a, b⟩ => ⟨a, h.trans b⟩
    have NU : ∀ V W, Same w V → Same V W → Calls Tryd.prog 21 #[.nilIface] W fun e W' => ∃ p c, e = .returned (.slice p 0 c) ∧ Same V W' := fun V W hV h =>
      (numbers_ok W [] none .nilIface rfl (by simp) (hg.same (hV.trans h) hl) (Nat.lt_of_lt_of_le hl (hV.trans h).size)).mono fun _ _ ⟨r, a, b, c⟩ => by
        obtain ⟨p, cap, rfl⟩ := b.slice
        exact ⟨p, cap, a, h.trans c⟩
    have RN : ∀ V W, Same w V → Same V W → Calls Tryd.prog 22 #[.agg #[.int .i64 0, .int .i64 0, .slice none 0 0]] W fun e W' => e = .returned (.slice none 0 0) ∧ Same V W' := fun V W hV h =>
      (refNum_nil W 0 _).mono fun _ _ ⟨a, b⟩ => ⟨a, h.trans b⟩
    have hIp : ∀ W p c, Ints W (.slice p 0 c) [] := fun W p c => ⟨by simp, .inl ⟨p, c, rfl, rfl⟩⟩
    have SI : ∀ V W p c p' c', Same w V → Same V W → Calls Tryd.prog 20 #[.slice p 0 c, .slice p' 0 c'] W fun e W' => e = .returned (.bool true) ∧ Same V W' := fun V W p c p' c' hV h =>
      (sameInts_ok W _ _ _ (hIp W p c) (hIp W p' c')).mono fun _ _ ⟨a, b⟩ => ⟨a, h.trans b⟩
    have TO : ∀ V W, Same w V → Same V W → Calls Tryd.prog 27 #[.nilIface] W fun e W' => ∃ r, e = .returned (.agg #[.int .i64 0, .int .i64 0, r]) ∧ Ints W' r [] ∧ Same V W' := fun V W hV h =>
      (told_ok' W [] none .nilIface 0 0 [] rfl (by simp) (.inl ⟨rfl, rfl, rfl, rfl⟩) ⟨by decide, by decide⟩).mono fun _ _ ⟨r, a, b, c⟩ => ⟨r, a, b, h.trans c⟩
    have RS : ∀ V W u, Same w V → Same V W → Ints W u [] → Calls Tryd.prog 26 #[.agg #[.int .i64 0, .int .i64 0, u], .agg #[.int .i64 0, .int .i64 0, .slice none 0 0]] W fun e W' => e = .returned (.bool true) ∧ Same V W' := fun V W u hV h hu =>
      (refSame_ok W 0 0 u _ [] hu (hIp W none 0)).mono fun _ _ ⟨a, b⟩ => ⟨a, h.trans b⟩
    have TN : ∀ V W, Same w V → Same V W → Calls Tryd.prog 21 #[.iface 59 (.pointer none)] W fun e W' => e = .returned (.slice none 0 0) ∧ Same V W' := fun V W hV h =>
      (numbers_typednil W (hg.same (hV.trans h) hl) (Nat.lt_of_lt_of_le hl (hV.trans h).size)).mono fun _ _ ⟨a, b⟩ => ⟨a, h.trans b⟩
    have WK : ∀ V W, Same w V → Same V W → Calls Tryd.prog 38 #[] W fun e W' => e = .returned (.bool true) ∧ Same V W' := fun V W hV h =>
      (works12 W (hg.same (hV.trans h) hl) (Nat.lt_of_lt_of_le hl (hV.trans h).size) (hp.same (hV.trans h))).mono fun _ _ ⟨a, b⟩ => ⟨a, h.trans b⟩
    have to' := Lib.hid TO
    have rs := Lib.hid RS
    have cl := Lib.hid CL
    have rc := Lib.hid RC
    have nu := Lib.hid NU
    have rn := Lib.hid RN
    have si := Lib.hid SI
    have tn := Lib.hid TN
    have wk := Lib.hid WK
    clear TO RS CL RC NU RN SI TN WK hI0 hIp
    go_wp2_with fail
    obtain ⟨i0, i1, i2⟩ := cells3 kd4
    have s0 : Same w4 w4.drew := (Chg.refl _ _).drew
    refine wp_region_held_drew (S := (fun w' => w'.cell? ⟨w.heap.size, 0, none⟩ = some (.int .i64 0) ∧ w'.cell? ⟨w.heap.size, 1, none⟩ = some (.int .i64 0) ∧ w'.cell? ⟨w.heap.size, 2, none⟩ = some (.slice none 0 0))) (by kernel_rfl) (by go_keep) (fun hHeld => ?_)
    refine wpAnyH_take (i := 0) (oi := { dst := some 20, op := Op.move (Operand.tmp 5), type := 27, pos := "law.go:150", after := #[], guard := none }) (v := ?_) rfl (by kernel_rfl) (by kernel_rfl) (by kernel_rfl) (fun _ _ _ h => h) (Or.inl ⟨by rfl, ?_⟩) (by assumption) ?_
    rotate_left
    · intro _ hSw
      try dsimp only at hSw
      first | (go_simp; done) | (go_simp; with_reducible rfl)
    try simp only [Act.put, List.setIfInBounds_toArray, List.set_cons_zero, List.set_cons_succ]
    refine wpAnyH_take (i := 2) (oi := { dst := some 22, op := Op.load 43 (Operand.tmp 2), type := 43, pos := "law.go:150", after := #[], guard := none }) (v := ?_) rfl (by kernel_rfl) (by kernel_rfl) (by kernel_rfl) (fun _ _ _ h => h) (Or.inl ⟨by rfl, ?_⟩) (by assumption) ?_
    rotate_left
    · intro _ hSw
      try dsimp only at hSw
      first | (go_simp; done) | (go_simp; with_reducible rfl)
    try simp only [Act.put, List.setIfInBounds_toArray, List.set_cons_zero, List.set_cons_succ]
    refine wpAnyH_ready (rs := [1]) (by kernel_rfl) (by simp) ?_
    refine AllReadyH.cons (o := { dst := some 21, op := Op.call { callee := Callee.value (Operand.func 13), args := #[Operand.tmp 20], argTypes := #[27] }, type := 35, pos := "law.go:150", after := #[{ on := 0, ground := Ground.data }], guard := none }) rfl (fun K hK => ?_) AllReadyH.nil
    go_simp
    refine (cl.out w4 _ m4 s0).mono ?_
    rintro e w5 ⟨rfl, g5⟩
    obtain ⟨i0, i1, i2⟩ := cells3 (g5.blk kd4 (fun x => x))
    go_wp2_with fail
    refine hK.out _ _ ?_ (fun hHeld => ?_)
    · go_keep
    clear hK K
    try simp only [Act.put, List.setIfInBounds_toArray, List.set_cons_zero, List.set_cons_succ]
    refine wpAnyH_ready (rs := [3]) (by kernel_rfl) (by simp) ?_
    refine AllReadyH.cons (o := { dst := some 23, op := Op.call { callee := Callee.value (Operand.func 19), args := #[Operand.tmp 22], argTypes := #[43] }, type := 35, pos := "law.go:150", after := #[{ on := 2, ground := Ground.data }, { on := 1, ground := Ground.chain }], guard := none }) rfl (fun K hK => ?_) AllReadyH.nil
    go_simp
    refine (rc.out w4 _ m4 g5).mono ?_
    rintro e w6 ⟨rfl, g6⟩
    obtain ⟨i0, i1, i2⟩ := cells3 (g6.blk kd4 (fun x => x))
    go_wp2_with fail
    refine hK.out _ _ ?_ (fun hHeld => ?_)
    · go_keep
    clear hK K
    try simp only [Act.put, List.setIfInBounds_toArray, List.set_cons_zero, List.set_cons_succ]
    refine wpAnyH_take (i := 4) (oi := { dst := some 24, op := Op.binOp BinOp.neq 35 (Operand.tmp 21) (Operand.tmp 23) 35, type := 4, pos := "law.go:150", after := #[{ on := 1, ground := Ground.data }, { on := 3, ground := Ground.data }], guard := none }) (v := ?_) rfl (by kernel_rfl) (by kernel_rfl) (by kernel_rfl) (fun _ _ _ h => h) (Or.inl ⟨by rfl, ?_⟩) (by assumption) ?_
    rotate_left
    · intro _ hSw
      try dsimp only at hSw
      first | (go_simp; done) | (go_simp; with_reducible rfl)
    try simp only [Act.put, List.setIfInBounds_toArray, List.set_cons_zero, List.set_cons_succ]
    refine wpAnyH_take (i := 5) (oi := { dst := some 25, op := Op.move (Operand.tmp 24), type := 4, pos := "law.go:150", after := #[{ on := 4, ground := Ground.data }, { on := 3, ground := Ground.chain }], guard := none }) (v := ?_) rfl (by kernel_rfl) (by kernel_rfl) (by kernel_rfl) (fun _ _ _ h => h) (Or.inl ⟨by rfl, ?_⟩) (by assumption) ?_
    rotate_left
    · intro _ hSw
      try dsimp only at hSw
      first | (go_simp; done) | (go_simp; with_reducible rfl)
    try simp only [Act.put, List.setIfInBounds_toArray, List.set_cons_zero, List.set_cons_succ]
    refine wpAnyH_take (i := 6) (oi := { dst := some 26, op := Op.move (Operand.tmp 5), type := 27, pos := "law.go:150", after := #[{ on := 5, ground := Ground.guard }], guard := some (5, false) }) (v := ?_) rfl (by kernel_rfl) (by kernel_rfl) (by kernel_rfl) (fun _ _ _ h => h) (Or.inl ⟨by rfl, ?_⟩) (by assumption) ?_
    rotate_left
    · intro _ hSw
      try dsimp only at hSw
      first | (go_simp; done) | (go_simp; with_reducible rfl)
    try simp only [Act.put, List.setIfInBounds_toArray, List.set_cons_zero, List.set_cons_succ]
    refine wpAnyH_take (i := 8) (oi := { dst := some 28, op := Op.load 43 (Operand.tmp 2), type := 43, pos := "law.go:150", after := #[{ on := 5, ground := Ground.guard }], guard := some (5, false) }) (v := ?_) rfl (by kernel_rfl) (by kernel_rfl) (by kernel_rfl) (fun _ _ _ h => h) (Or.inl ⟨by rfl, ?_⟩) (by assumption) ?_
    rotate_left
    · intro _ hSw
      try dsimp only at hSw
      first | (go_simp; done) | (go_simp; with_reducible rfl)
    try simp only [Act.put, List.setIfInBounds_toArray, List.set_cons_zero, List.set_cons_succ]
    refine wpAnyH_ready (rs := [7]) (by kernel_rfl) (by simp) ?_
    refine AllReadyH.cons (o := { dst := some 27, op := Op.call { callee := Callee.value (Operand.func 21), args := #[Operand.tmp 26], argTypes := #[27] }, type := 41, pos := "law.go:150", after := #[{ on := 6, ground := Ground.data }, { on := 5, ground := Ground.chain }, { on := 5, ground := Ground.guard }], guard := some (5, false) }) rfl (fun K hK => ?_) AllReadyH.nil
    go_simp
    refine (nu.out w4 _ m4 g6).mono ?_
    rintro e w7 ⟨p7, c7, rfl, g7⟩
    obtain ⟨i0, i1, i2⟩ := cells3 (g7.blk kd4 (fun x => x))
    go_wp2_with fail
    refine hK.out _ _ ?_ (fun hHeld => ?_)
    · go_keep
    clear hK K
    try simp only [Act.put, List.setIfInBounds_toArray, List.set_cons_zero, List.set_cons_succ]
    refine wpAnyH_ready (rs := [9]) (by kernel_rfl) (by simp) ?_
    refine AllReadyH.cons (o := { dst := some 29, op := Op.call { callee := Callee.value (Operand.func 22), args := #[Operand.tmp 28], argTypes := #[43] }, type := 41, pos := "law.go:150", after := #[{ on := 8, ground := Ground.data }, { on := 7, ground := Ground.chain }, { on := 5, ground := Ground.guard }], guard := some (5, false) }) rfl (fun K hK => ?_) AllReadyH.nil
    go_simp
    refine (rn.out w4 _ m4 g7).mono ?_
    rintro e w8 ⟨rfl, g8⟩
    obtain ⟨i0, i1, i2⟩ := cells3 (g8.blk kd4 (fun x => x))
    go_wp2_with fail
    refine hK.out _ _ ?_ (fun hHeld => ?_)
    · go_keep
    clear hK K
    try simp only [Act.put, List.setIfInBounds_toArray, List.set_cons_zero, List.set_cons_succ]
    refine wpAnyH_ready (rs := [10]) (by kernel_rfl) (by simp) ?_
    refine AllReadyH.cons (o := { dst := some 30, op := Op.call { callee := Callee.value (Operand.func 20), args := #[Operand.tmp 27, Operand.tmp 29], argTypes := #[41, 41] }, type := 4, pos := "law.go:150", after := #[{ on := 7, ground := Ground.data }, { on := 9, ground := Ground.data }, { on := 9, ground := Ground.chain }, { on := 5, ground := Ground.guard }], guard := some (5, false) }) rfl (fun K hK => ?_) AllReadyH.nil
    go_simp
    refine (si.out w4 _ _ _ _ _ m4 g8).mono ?_
    rintro e w9 ⟨rfl, g9⟩
    obtain ⟨i0, i1, i2⟩ := cells3 (g9.blk kd4 (fun x => x))
    go_wp2_with fail
    refine hK.out _ _ ?_ (fun hHeld => ?_)
    · go_keep
    clear hK K
    try simp only [Act.put, List.setIfInBounds_toArray, List.set_cons_zero, List.set_cons_succ]
    refine wpAnyH_take (i := 11) (oi := { dst := some 31, op := Op.unOp UnOp.not 4 (Operand.tmp 30), type := 4, pos := "law.go:150", after := #[{ on := 10, ground := Ground.data }, { on := 5, ground := Ground.guard }], guard := some (5, false) }) (v := ?_) rfl (by kernel_rfl) (by kernel_rfl) (by kernel_rfl) (fun _ _ _ h => h) (Or.inl ⟨by rfl, ?_⟩) (by assumption) ?_
    rotate_left
    · intro _ hSw
      try dsimp only at hSw
      first | (go_simp; done) | (go_simp; with_reducible rfl)
    try simp only [Act.put, List.setIfInBounds_toArray, List.set_cons_zero, List.set_cons_succ]
    refine wpAnyH_take (i := 12) (oi := { dst := some 32, op := Op.pick (Operand.tmp 25) (Operand.const (Value.bool true)) (Operand.tmp 31), type := 4, pos := "law.go:150", after := #[{ on := 5, ground := Ground.data }, { on := 11, ground := Ground.data }], guard := none }) (v := ?_) rfl (by kernel_rfl) (by kernel_rfl) (by kernel_rfl) (fun _ _ _ h => h) (Or.inl ⟨by rfl, ?_⟩) (by assumption) ?_
    rotate_left
    · intro _ hSw
      try dsimp only at hSw
      first | (go_simp; done) | (go_simp; with_reducible rfl)
    try simp only [Act.put, List.setIfInBounds_toArray, List.set_cons_zero, List.set_cons_succ]
    refine wpAnyH_take (i := 13) (oi := { dst := some 33, op := Op.move (Operand.tmp 32), type := 4, pos := "law.go:150", after := #[{ on := 12, ground := Ground.data }, { on := 10, ground := Ground.chain }], guard := none }) (v := ?_) rfl (by kernel_rfl) (by kernel_rfl) (by kernel_rfl) (fun _ _ _ h => h) (Or.inl ⟨by rfl, ?_⟩) (by assumption) ?_
    rotate_left
    · intro _ hSw
      try dsimp only at hSw
      first | (go_simp; done) | (go_simp; with_reducible rfl)
    try simp only [Act.put, List.setIfInBounds_toArray, List.set_cons_zero, List.set_cons_succ]
    refine wpAnyH_take (i := 14) (oi := { dst := some 34, op := Op.move (Operand.tmp 5), type := 27, pos := "law.go:150", after := #[{ on := 13, ground := Ground.guard }], guard := some (13, false) }) (v := ?_) rfl (by kernel_rfl) (by kernel_rfl) (by kernel_rfl) (fun _ _ _ h => h) (Or.inl ⟨by rfl, ?_⟩) (by assumption) ?_
    rotate_left
    · intro _ hSw
      try dsimp only at hSw
      first | (go_simp; done) | (go_simp; with_reducible rfl)
    try simp only [Act.put, List.setIfInBounds_toArray, List.set_cons_zero, List.set_cons_succ]
    refine wpAnyH_take (i := 15) (oi := { dst := some 35, op := Op.binOp BinOp.neq 27 (Operand.tmp 34) (Operand.const Value.nilIface) 27, type := 4, pos := "law.go:150", after := #[{ on := 14, ground := Ground.data }, { on := 13, ground := Ground.guard }], guard := some (13, false) }) (v := ?_) rfl (by kernel_rfl) (by kernel_rfl) (by kernel_rfl) (fun _ _ _ h => h) (Or.inl ⟨by rfl, ?_⟩) (by assumption) ?_
    rotate_left
    · intro _ hSw
      try dsimp only at hSw
      first | (go_simp; done) | (go_simp; with_reducible rfl)
    try simp only [Act.put, List.setIfInBounds_toArray, List.set_cons_zero, List.set_cons_succ]
    refine wpAnyH_take (i := 16) (oi := { dst := some 36, op := Op.move (Operand.tmp 35), type := 4, pos := "law.go:150", after := #[{ on := 15, ground := Ground.data }, { on := 13, ground := Ground.chain }, { on := 13, ground := Ground.guard }], guard := some (13, false) }) (v := ?_) rfl (by kernel_rfl) (by kernel_rfl) (by kernel_rfl) (fun _ _ _ h => h) (Or.inl ⟨by rfl, ?_⟩) (by assumption) ?_
    rotate_left
    · intro _ hSw
      try dsimp only at hSw
      first | (go_simp; done) | (go_simp; with_reducible rfl)
    try simp only [Act.put, List.setIfInBounds_toArray, List.set_cons_zero, List.set_cons_succ]
    refine wpAnyH_take (i := 17) (oi := { dst := some 37, op := Op.move (Operand.tmp 5), type := 27, pos := "law.go:150", after := #[{ on := 16, ground := Ground.guard }], guard := some (16, true) }) (v := undef) rfl (by kernel_rfl) (by kernel_rfl) (by kernel_rfl) (fun _ _ _ h => h) (Or.inr ⟨by rfl, rfl⟩) (by assumption) ?_
    try simp only [Act.put, List.setIfInBounds_toArray, List.set_cons_zero, List.set_cons_succ]
    refine wpAnyH_take (i := 18) (oi := { dst := some 38, op := Op.call { callee := Callee.value (Operand.func 23), args := #[Operand.tmp 37], argTypes := #[27] }, type := 9, pos := "law.go:150", after := #[{ on := 17, ground := Ground.data }, { on := 16, ground := Ground.chain }, { on := 16, ground := Ground.guard }], guard := some (16, true) }) (v := undef) rfl (by kernel_rfl) (by kernel_rfl) (by kernel_rfl) (fun _ _ _ h => h) (Or.inr ⟨by rfl, rfl⟩) (by assumption) ?_
    try simp only [Act.put, List.setIfInBounds_toArray, List.set_cons_zero, List.set_cons_succ]
    refine wpAnyH_take (i := 19) (oi := { dst := some 39, op := Op.load 43 (Operand.tmp 2), type := 43, pos := "law.go:150", after := #[{ on := 16, ground := Ground.guard }], guard := some (16, true) }) (v := undef) rfl (by kernel_rfl) (by kernel_rfl) (by kernel_rfl) (fun _ _ _ h => h) (Or.inr ⟨by rfl, rfl⟩) (by assumption) ?_
    try simp only [Act.put, List.setIfInBounds_toArray, List.set_cons_zero, List.set_cons_succ]
    refine wpAnyH_take (i := 20) (oi := { dst := some 40, op := Op.call { callee := Callee.value (Operand.func 24), args := #[Operand.tmp 39], argTypes := #[43] }, type := 9, pos := "law.go:150", after := #[{ on := 19, ground := Ground.data }, { on := 18, ground := Ground.chain }, { on := 16, ground := Ground.guard }], guard := some (16, true) }) (v := undef) rfl (by kernel_rfl) (by kernel_rfl) (by kernel_rfl) (fun _ _ _ h => h) (Or.inr ⟨by rfl, rfl⟩) (by assumption) ?_
    try simp only [Act.put, List.setIfInBounds_toArray, List.set_cons_zero, List.set_cons_succ]
    refine wpAnyH_take (i := 21) (oi := { dst := some 41, op := Op.binOp BinOp.neq 9 (Operand.tmp 38) (Operand.tmp 40) 9, type := 4, pos := "law.go:150", after := #[{ on := 18, ground := Ground.data }, { on := 20, ground := Ground.data }, { on := 16, ground := Ground.guard }], guard := some (16, true) }) (v := undef) rfl (by kernel_rfl) (by kernel_rfl) (by kernel_rfl) (fun _ _ _ h => h) (Or.inr ⟨by rfl, rfl⟩) (by assumption) ?_
    try simp only [Act.put, List.setIfInBounds_toArray, List.set_cons_zero, List.set_cons_succ]
    refine wpAnyH_take (i := 22) (oi := { dst := some 42, op := Op.pick (Operand.tmp 36) (Operand.tmp 41) (Operand.const (Value.bool false)), type := 4, pos := "law.go:150", after := #[{ on := 16, ground := Ground.data }, { on := 21, ground := Ground.data }, { on := 13, ground := Ground.guard }], guard := some (13, false) }) (v := ?_) rfl (by kernel_rfl) (by kernel_rfl) (by kernel_rfl) (fun _ _ _ h => h) (Or.inl ⟨by rfl, ?_⟩) (by assumption) ?_
    rotate_left
    · intro _ hSw
      try dsimp only at hSw
      first | (go_simp; done) | (go_simp; with_reducible rfl)
    try simp only [Act.put, List.setIfInBounds_toArray, List.set_cons_zero, List.set_cons_succ]
    refine wpAnyH_take (i := 23) (oi := { dst := some 43, op := Op.pick (Operand.tmp 33) (Operand.const (Value.bool true)) (Operand.tmp 42), type := 4, pos := "law.go:150", after := #[{ on := 13, ground := Ground.data }, { on := 22, ground := Ground.data }], guard := none }) (v := ?_) rfl (by kernel_rfl) (by kernel_rfl) (by kernel_rfl) (fun _ _ _ h => h) (Or.inl ⟨by rfl, ?_⟩) (by assumption) ?_
    rotate_left
    · intro _ hSw
      try dsimp only at hSw
      first | (go_simp; done) | (go_simp; with_reducible rfl)
    try simp only [Act.put, List.setIfInBounds_toArray, List.set_cons_zero, List.set_cons_succ]
    refine wpAnyH_done (by kernel_rfl) ?_ _
    clear i0 i1 i2 s0 g5 g6 g7 g8
    have kdb := g9.blk kd4 (fun x => x)
    obtain ⟨i0, i1, i2⟩ := cells3 kdb
    go_wp2_with fail
    refine (wrap_nil w9 number).mono ?_
    rintro e w' ⟨rfl, rfl⟩
    have kM := Blk.new w9 #[.int .i64 0, .int .i64 0, .slice none 0 0] 43
    have gX : Same w4 (w9.alloc (.cells #[.int .i64 0, .int .i64 0, .slice none 0 0] 43)) := g9.alloc _
    have kdX := kdb.alloc (.cells #[.int .i64 0, .int .i64 0, .slice none 0 0] 43)
    go_wp2_with fail
    clear i0 i1 i2
    generalize hwX : w9.alloc (.cells #[.int .i64 0, .int .i64 0, .slice none 0 0] 43) = wX at *
    have mX := m4.trans gX
    clear hwX kdb g9
    obtain ⟨i0, i1, i2⟩ := cells3 kdX
    obtain ⟨j0, j1, j2⟩ := cells3 kM
    have gX0 : Same wX wX := Chg.refl _ _
    have b0 : Same wX wX.drew := (Chg.refl _ _).drew
    refine wp_region_held_drew (S := (fun w' => w'.cell? ⟨w.heap.size, 0, none⟩ = some (.int .i64 0) ∧ w'.cell? ⟨w.heap.size, 1, none⟩ = some (.int .i64 0) ∧ w'.cell? ⟨w.heap.size, 2, none⟩ = some (.slice none 0 0) ∧ w'.cell? ⟨w9.heap.size, 0, none⟩ = some (.int .i64 0) ∧ w'.cell? ⟨w9.heap.size, 1, none⟩ = some (.int .i64 0) ∧ w'.cell? ⟨w9.heap.size, 2, none⟩ = some (.slice none 0 0))) (by kernel_rfl) (by go_keep) (fun hHeld => ?_)
    refine wpAnyH_take (i := 0) (oi := { dst := some 56, op := Op.move (Operand.tmp 6), type := 27, pos := "law.go:158", after := #[], guard := none }) (v := ?_) rfl (by kernel_rfl) (by kernel_rfl) (by kernel_rfl) (fun _ _ _ h => h) (Or.inl ⟨by rfl, ?_⟩) (by assumption) ?_
    rotate_left
    · intro _ hSw
      try dsimp only at hSw
      first | (go_simp; done) | (go_simp; with_reducible rfl)
    try simp only [Act.put, List.setIfInBounds_toArray, List.set_cons_zero, List.set_cons_succ]
    refine wpAnyH_take (i := 2) (oi := { dst := some 58, op := Op.load 43 (Operand.tmp 7), type := 43, pos := "law.go:158", after := #[], guard := none }) (v := ?_) rfl (by kernel_rfl) (by kernel_rfl) (by kernel_rfl) (fun _ _ _ h => h) (Or.inl ⟨by rfl, ?_⟩) (by assumption) ?_
    rotate_left
    · intro _ hSw
      try dsimp only at hSw
      first | (go_simp; done) | (go_simp; with_reducible rfl)
    try simp only [Act.put, List.setIfInBounds_toArray, List.set_cons_zero, List.set_cons_succ]
    refine wpAnyH_ready (rs := [1]) (by kernel_rfl) (by simp) ?_
    refine AllReadyH.cons (o := { dst := some 57, op := Op.call { callee := Callee.value (Operand.func 27), args := #[Operand.tmp 56], argTypes := #[27] }, type := 43, pos := "law.go:158", after := #[{ on := 0, ground := Ground.data }], guard := none }) rfl (fun K hK => ?_) AllReadyH.nil
    go_simp
    refine (to'.out wX _ mX b0).mono ?_
    rintro e y1 ⟨r1, rfl, h1, b1⟩
    obtain ⟨i0, i1, i2⟩ := cells3 (b1.blk kdX (fun x => x))
    obtain ⟨j0, j1, j2⟩ := cells3 (b1.blk kM (fun x => x))
    go_wp2_with fail
    refine hK.out _ _ ?_ (fun hHeld => ?_)
    · go_keep
    clear hK K
    try simp only [Act.put, List.setIfInBounds_toArray, List.set_cons_zero, List.set_cons_succ]
    refine wpAnyH_ready (rs := [3]) (by kernel_rfl) (by simp) ?_
    refine AllReadyH.cons (o := { dst := some 59, op := Op.call { callee := Callee.value (Operand.func 26), args := #[Operand.tmp 57, Operand.tmp 58], argTypes := #[43, 43] }, type := 4, pos := "law.go:158", after := #[{ on := 1, ground := Ground.data }, { on := 2, ground := Ground.data }, { on := 1, ground := Ground.chain }], guard := none }) rfl (fun K hK => ?_) AllReadyH.nil
    go_simp
    refine (rs.out wX _ _ mX b1 h1).mono ?_
    rintro e y2 ⟨rfl, b2⟩
    obtain ⟨i0, i1, i2⟩ := cells3 (b2.blk kdX (fun x => x))
    obtain ⟨j0, j1, j2⟩ := cells3 (b2.blk kM (fun x => x))
    go_wp2_with fail
    refine hK.out _ _ ?_ (fun hHeld => ?_)
    · go_keep
    clear hK K
    try simp only [Act.put, List.setIfInBounds_toArray, List.set_cons_zero, List.set_cons_succ]
    refine wpAnyH_take (i := 4) (oi := { dst := some 60, op := Op.unOp UnOp.not 4 (Operand.tmp 59), type := 4, pos := "law.go:158", after := #[{ on := 3, ground := Ground.data }], guard := none }) (v := ?_) rfl (by kernel_rfl) (by kernel_rfl) (by kernel_rfl) (fun _ _ _ h => h) (Or.inl ⟨by rfl, ?_⟩) (by assumption) ?_
    rotate_left
    · intro _ hSw
      try dsimp only at hSw
      first | (go_simp; done) | (go_simp; with_reducible rfl)
    try simp only [Act.put, List.setIfInBounds_toArray, List.set_cons_zero, List.set_cons_succ]
    refine wpAnyH_take (i := 5) (oi := { dst := some 61, op := Op.move (Operand.tmp 60), type := 4, pos := "law.go:158", after := #[{ on := 4, ground := Ground.data }, { on := 3, ground := Ground.chain }], guard := none }) (v := ?_) rfl (by kernel_rfl) (by kernel_rfl) (by kernel_rfl) (fun _ _ _ h => h) (Or.inl ⟨by rfl, ?_⟩) (by assumption) ?_
    rotate_left
    · intro _ hSw
      try dsimp only at hSw
      first | (go_simp; done) | (go_simp; with_reducible rfl)
    try simp only [Act.put, List.setIfInBounds_toArray, List.set_cons_zero, List.set_cons_succ]
    refine wpAnyH_take (i := 6) (oi := { dst := some 62, op := Op.move (Operand.tmp 6), type := 27, pos := "law.go:158", after := #[{ on := 5, ground := Ground.guard }], guard := some (5, false) }) (v := ?_) rfl (by kernel_rfl) (by kernel_rfl) (by kernel_rfl) (fun _ _ _ h => h) (Or.inl ⟨by rfl, ?_⟩) (by assumption) ?_
    rotate_left
    · intro _ hSw
      try dsimp only at hSw
      first | (go_simp; done) | (go_simp; with_reducible rfl)
    try simp only [Act.put, List.setIfInBounds_toArray, List.set_cons_zero, List.set_cons_succ]
    refine wpAnyH_take (i := 7) (oi := { dst := some 63, op := Op.binOp BinOp.neq 27 (Operand.tmp 62) (Operand.const Value.nilIface) 27, type := 4, pos := "law.go:158", after := #[{ on := 6, ground := Ground.data }, { on := 5, ground := Ground.guard }], guard := some (5, false) }) (v := ?_) rfl (by kernel_rfl) (by kernel_rfl) (by kernel_rfl) (fun _ _ _ h => h) (Or.inl ⟨by rfl, ?_⟩) (by assumption) ?_
    rotate_left
    · intro _ hSw
      try dsimp only at hSw
      first | (go_simp; done) | (go_simp; with_reducible rfl)
    try simp only [Act.put, List.setIfInBounds_toArray, List.set_cons_zero, List.set_cons_succ]
    refine wpAnyH_take (i := 8) (oi := { dst := some 64, op := Op.move (Operand.tmp 63), type := 4, pos := "law.go:158", after := #[{ on := 7, ground := Ground.data }, { on := 5, ground := Ground.chain }, { on := 5, ground := Ground.guard }], guard := some (5, false) }) (v := ?_) rfl (by kernel_rfl) (by kernel_rfl) (by kernel_rfl) (fun _ _ _ h => h) (Or.inl ⟨by rfl, ?_⟩) (by assumption) ?_
    rotate_left
    · intro _ hSw
      try dsimp only at hSw
      first | (go_simp; done) | (go_simp; with_reducible rfl)
    try simp only [Act.put, List.setIfInBounds_toArray, List.set_cons_zero, List.set_cons_succ]
    refine wpAnyH_take (i := 9) (oi := { dst := some 65, op := Op.move (Operand.tmp 6), type := 27, pos := "law.go:158", after := #[{ on := 8, ground := Ground.guard }], guard := some (8, true) }) (v := undef) rfl (by kernel_rfl) (by kernel_rfl) (by kernel_rfl) (fun _ _ _ h => h) (Or.inr ⟨by rfl, rfl⟩) (by assumption) ?_
    try simp only [Act.put, List.setIfInBounds_toArray, List.set_cons_zero, List.set_cons_succ]
    refine wpAnyH_take (i := 10) (oi := { dst := some 66, op := Op.call { callee := Callee.value (Operand.func 23), args := #[Operand.tmp 65], argTypes := #[27] }, type := 9, pos := "law.go:158", after := #[{ on := 9, ground := Ground.data }, { on := 8, ground := Ground.chain }, { on := 8, ground := Ground.guard }], guard := some (8, true) }) (v := undef) rfl (by kernel_rfl) (by kernel_rfl) (by kernel_rfl) (fun _ _ _ h => h) (Or.inr ⟨by rfl, rfl⟩) (by assumption) ?_
    try simp only [Act.put, List.setIfInBounds_toArray, List.set_cons_zero, List.set_cons_succ]
    refine wpAnyH_take (i := 11) (oi := { dst := some 67, op := Op.load 43 (Operand.tmp 7), type := 43, pos := "law.go:158", after := #[{ on := 8, ground := Ground.guard }], guard := some (8, true) }) (v := undef) rfl (by kernel_rfl) (by kernel_rfl) (by kernel_rfl) (fun _ _ _ h => h) (Or.inr ⟨by rfl, rfl⟩) (by assumption) ?_
    try simp only [Act.put, List.setIfInBounds_toArray, List.set_cons_zero, List.set_cons_succ]
    refine wpAnyH_take (i := 12) (oi := { dst := some 68, op := Op.call { callee := Callee.value (Operand.func 24), args := #[Operand.tmp 67], argTypes := #[43] }, type := 9, pos := "law.go:158", after := #[{ on := 11, ground := Ground.data }, { on := 10, ground := Ground.chain }, { on := 8, ground := Ground.guard }], guard := some (8, true) }) (v := undef) rfl (by kernel_rfl) (by kernel_rfl) (by kernel_rfl) (fun _ _ _ h => h) (Or.inr ⟨by rfl, rfl⟩) (by assumption) ?_
    try simp only [Act.put, List.setIfInBounds_toArray, List.set_cons_zero, List.set_cons_succ]
    refine wpAnyH_take (i := 13) (oi := { dst := some 69, op := Op.binOp BinOp.neq 9 (Operand.tmp 66) (Operand.tmp 68) 9, type := 4, pos := "law.go:158", after := #[{ on := 10, ground := Ground.data }, { on := 12, ground := Ground.data }, { on := 8, ground := Ground.guard }], guard := some (8, true) }) (v := undef) rfl (by kernel_rfl) (by kernel_rfl) (by kernel_rfl) (fun _ _ _ h => h) (Or.inr ⟨by rfl, rfl⟩) (by assumption) ?_
    try simp only [Act.put, List.setIfInBounds_toArray, List.set_cons_zero, List.set_cons_succ]
    refine wpAnyH_take (i := 14) (oi := { dst := some 70, op := Op.pick (Operand.tmp 64) (Operand.tmp 69) (Operand.const (Value.bool false)), type := 4, pos := "law.go:158", after := #[{ on := 8, ground := Ground.data }, { on := 13, ground := Ground.data }, { on := 5, ground := Ground.guard }], guard := some (5, false) }) (v := ?_) rfl (by kernel_rfl) (by kernel_rfl) (by kernel_rfl) (fun _ _ _ h => h) (Or.inl ⟨by rfl, ?_⟩) (by assumption) ?_
    rotate_left
    · intro _ hSw
      try dsimp only at hSw
      first | (go_simp; done) | (go_simp; with_reducible rfl)
    try simp only [Act.put, List.setIfInBounds_toArray, List.set_cons_zero, List.set_cons_succ]
    refine wpAnyH_take (i := 15) (oi := { dst := some 71, op := Op.pick (Operand.tmp 61) (Operand.const (Value.bool true)) (Operand.tmp 70), type := 4, pos := "law.go:158", after := #[{ on := 5, ground := Ground.data }, { on := 14, ground := Ground.data }], guard := none }) (v := ?_) rfl (by kernel_rfl) (by kernel_rfl) (by kernel_rfl) (fun _ _ _ h => h) (Or.inl ⟨by rfl, ?_⟩) (by assumption) ?_
    rotate_left
    · intro _ hSw
      try dsimp only at hSw
      first | (go_simp; done) | (go_simp; with_reducible rfl)
    try simp only [Act.put, List.setIfInBounds_toArray, List.set_cons_zero, List.set_cons_succ]
    refine wpAnyH_take (i := 16) (oi := { dst := some 72, op := Op.move (Operand.tmp 71), type := 4, pos := "law.go:158", after := #[{ on := 15, ground := Ground.data }, { on := 12, ground := Ground.chain }], guard := none }) (v := ?_) rfl (by kernel_rfl) (by kernel_rfl) (by kernel_rfl) (fun _ _ _ h => h) (Or.inl ⟨by rfl, ?_⟩) (by assumption) ?_
    rotate_left
    · intro _ hSw
      try dsimp only at hSw
      first | (go_simp; done) | (go_simp; with_reducible rfl)
    try simp only [Act.put, List.setIfInBounds_toArray, List.set_cons_zero, List.set_cons_succ]
    refine wpAnyH_take (i := 17) (oi := { dst := some 73, op := Op.move (Operand.tmp 6), type := 27, pos := "law.go:158", after := #[{ on := 16, ground := Ground.guard }], guard := some (16, false) }) (v := ?_) rfl (by kernel_rfl) (by kernel_rfl) (by kernel_rfl) (fun _ _ _ h => h) (Or.inl ⟨by rfl, ?_⟩) (by assumption) ?_
    rotate_left
    · intro _ hSw
      try dsimp only at hSw
      first | (go_simp; done) | (go_simp; with_reducible rfl)
    try simp only [Act.put, List.setIfInBounds_toArray, List.set_cons_zero, List.set_cons_succ]
    refine wpAnyH_take (i := 19) (oi := { dst := some 75, op := Op.load 43 (Operand.tmp 2), type := 43, pos := "law.go:158", after := #[{ on := 16, ground := Ground.guard }], guard := some (16, false) }) (v := ?_) rfl (by kernel_rfl) (by kernel_rfl) (by kernel_rfl) (fun _ _ _ h => h) (Or.inl ⟨by rfl, ?_⟩) (by assumption) ?_
    rotate_left
    · intro _ hSw
      try dsimp only at hSw
      first | (go_simp; done) | (go_simp; with_reducible rfl)
    try simp only [Act.put, List.setIfInBounds_toArray, List.set_cons_zero, List.set_cons_succ]
    refine wpAnyH_ready (rs := [18]) (by kernel_rfl) (by simp) ?_
    refine AllReadyH.cons (o := { dst := some 74, op := Op.call { callee := Callee.value (Operand.func 13), args := #[Operand.tmp 73], argTypes := #[27] }, type := 35, pos := "law.go:158", after := #[{ on := 17, ground := Ground.data }, { on := 16, ground := Ground.chain }, { on := 16, ground := Ground.guard }], guard := some (16, false) }) rfl (fun K hK => ?_) AllReadyH.nil
    go_simp
    refine (cl.out wX _ mX b2).mono ?_
    rintro e y3 ⟨rfl, b3⟩
    obtain ⟨i0, i1, i2⟩ := cells3 (b3.blk kdX (fun x => x))
    obtain ⟨j0, j1, j2⟩ := cells3 (b3.blk kM (fun x => x))
    go_wp2_with fail
    refine hK.out _ _ ?_ (fun hHeld => ?_)
    · go_keep
    clear hK K
    try simp only [Act.put, List.setIfInBounds_toArray, List.set_cons_zero, List.set_cons_succ]
    refine wpAnyH_ready (rs := [20]) (by kernel_rfl) (by simp) ?_
    refine AllReadyH.cons (o := { dst := some 76, op := Op.call { callee := Callee.value (Operand.func 19), args := #[Operand.tmp 75], argTypes := #[43] }, type := 35, pos := "law.go:158", after := #[{ on := 19, ground := Ground.data }, { on := 18, ground := Ground.chain }, { on := 16, ground := Ground.guard }], guard := some (16, false) }) rfl (fun K hK => ?_) AllReadyH.nil
    go_simp
    refine (rc.out wX _ mX b3).mono ?_
    rintro e y4 ⟨rfl, b4⟩
    obtain ⟨i0, i1, i2⟩ := cells3 (b4.blk kdX (fun x => x))
    obtain ⟨j0, j1, j2⟩ := cells3 (b4.blk kM (fun x => x))
    go_wp2_with fail
    refine hK.out _ _ ?_ (fun hHeld => ?_)
    · go_keep
    clear hK K
    try simp only [Act.put, List.setIfInBounds_toArray, List.set_cons_zero, List.set_cons_succ]
    refine wpAnyH_take (i := 21) (oi := { dst := some 77, op := Op.binOp BinOp.neq 35 (Operand.tmp 74) (Operand.tmp 76) 35, type := 4, pos := "law.go:158", after := #[{ on := 18, ground := Ground.data }, { on := 20, ground := Ground.data }, { on := 16, ground := Ground.guard }], guard := some (16, false) }) (v := ?_) rfl (by kernel_rfl) (by kernel_rfl) (by kernel_rfl) (fun _ _ _ h => h) (Or.inl ⟨by rfl, ?_⟩) (by assumption) ?_
    rotate_left
    · intro _ hSw
      try dsimp only at hSw
      first | (go_simp; done) | (go_simp; with_reducible rfl)
    try simp only [Act.put, List.setIfInBounds_toArray, List.set_cons_zero, List.set_cons_succ]
    refine wpAnyH_take (i := 22) (oi := { dst := some 78, op := Op.pick (Operand.tmp 72) (Operand.const (Value.bool true)) (Operand.tmp 77), type := 4, pos := "law.go:158", after := #[{ on := 16, ground := Ground.data }, { on := 21, ground := Ground.data }], guard := none }) (v := ?_) rfl (by kernel_rfl) (by kernel_rfl) (by kernel_rfl) (fun _ _ _ h => h) (Or.inl ⟨by rfl, ?_⟩) (by assumption) ?_
    rotate_left
    · intro _ hSw
      try dsimp only at hSw
      first | (go_simp; done) | (go_simp; with_reducible rfl)
    try simp only [Act.put, List.setIfInBounds_toArray, List.set_cons_zero, List.set_cons_succ]
    refine wpAnyH_take (i := 23) (oi := { dst := some 79, op := Op.move (Operand.tmp 78), type := 4, pos := "law.go:158", after := #[{ on := 22, ground := Ground.data }, { on := 20, ground := Ground.chain }], guard := none }) (v := ?_) rfl (by kernel_rfl) (by kernel_rfl) (by kernel_rfl) (fun _ _ _ h => h) (Or.inl ⟨by rfl, ?_⟩) (by assumption) ?_
    rotate_left
    · intro _ hSw
      try dsimp only at hSw
      first | (go_simp; done) | (go_simp; with_reducible rfl)
    try simp only [Act.put, List.setIfInBounds_toArray, List.set_cons_zero, List.set_cons_succ]
    refine wpAnyH_take (i := 24) (oi := { dst := some 80, op := Op.move (Operand.tmp 6), type := 27, pos := "law.go:158", after := #[{ on := 23, ground := Ground.guard }], guard := some (23, false) }) (v := ?_) rfl (by kernel_rfl) (by kernel_rfl) (by kernel_rfl) (fun _ _ _ h => h) (Or.inl ⟨by rfl, ?_⟩) (by assumption) ?_
    rotate_left
    · intro _ hSw
      try dsimp only at hSw
      first | (go_simp; done) | (go_simp; with_reducible rfl)
    try simp only [Act.put, List.setIfInBounds_toArray, List.set_cons_zero, List.set_cons_succ]
    refine wpAnyH_take (i := 26) (oi := { dst := some 82, op := Op.load 43 (Operand.tmp 7), type := 43, pos := "law.go:158", after := #[{ on := 23, ground := Ground.guard }], guard := some (23, false) }) (v := ?_) rfl (by kernel_rfl) (by kernel_rfl) (by kernel_rfl) (fun _ _ _ h => h) (Or.inl ⟨by rfl, ?_⟩) (by assumption) ?_
    rotate_left
    · intro _ hSw
      try dsimp only at hSw
      first | (go_simp; done) | (go_simp; with_reducible rfl)
    try simp only [Act.put, List.setIfInBounds_toArray, List.set_cons_zero, List.set_cons_succ]
    refine wpAnyH_ready (rs := [25]) (by kernel_rfl) (by simp) ?_
    refine AllReadyH.cons (o := { dst := some 81, op := Op.call { callee := Callee.value (Operand.func 21), args := #[Operand.tmp 80], argTypes := #[27] }, type := 41, pos := "law.go:158", after := #[{ on := 24, ground := Ground.data }, { on := 23, ground := Ground.chain }, { on := 23, ground := Ground.guard }], guard := some (23, false) }) rfl (fun K hK => ?_) AllReadyH.nil
    go_simp
    refine (nu.out wX _ mX b4).mono ?_
    rintro e y5 ⟨p5, c5, rfl, b5⟩
    obtain ⟨i0, i1, i2⟩ := cells3 (b5.blk kdX (fun x => x))
    obtain ⟨j0, j1, j2⟩ := cells3 (b5.blk kM (fun x => x))
    go_wp2_with fail
    refine hK.out _ _ ?_ (fun hHeld => ?_)
    · go_keep
    clear hK K
    try simp only [Act.put, List.setIfInBounds_toArray, List.set_cons_zero, List.set_cons_succ]
    refine wpAnyH_ready (rs := [27]) (by kernel_rfl) (by simp) ?_
    refine AllReadyH.cons (o := { dst := some 83, op := Op.call { callee := Callee.value (Operand.func 22), args := #[Operand.tmp 82], argTypes := #[43] }, type := 41, pos := "law.go:158", after := #[{ on := 26, ground := Ground.data }, { on := 25, ground := Ground.chain }, { on := 23, ground := Ground.guard }], guard := some (23, false) }) rfl (fun K hK => ?_) AllReadyH.nil
    go_simp
    refine (rn.out wX _ mX b5).mono ?_
    rintro e y6 ⟨rfl, b6⟩
    obtain ⟨i0, i1, i2⟩ := cells3 (b6.blk kdX (fun x => x))
    obtain ⟨j0, j1, j2⟩ := cells3 (b6.blk kM (fun x => x))
    go_wp2_with fail
    refine hK.out _ _ ?_ (fun hHeld => ?_)
    · go_keep
    clear hK K
    try simp only [Act.put, List.setIfInBounds_toArray, List.set_cons_zero, List.set_cons_succ]
    refine wpAnyH_ready (rs := [28]) (by kernel_rfl) (by simp) ?_
    refine AllReadyH.cons (o := { dst := some 84, op := Op.call { callee := Callee.value (Operand.func 20), args := #[Operand.tmp 81, Operand.tmp 83], argTypes := #[41, 41] }, type := 4, pos := "law.go:158", after := #[{ on := 25, ground := Ground.data }, { on := 27, ground := Ground.data }, { on := 27, ground := Ground.chain }, { on := 23, ground := Ground.guard }], guard := some (23, false) }) rfl (fun K hK => ?_) AllReadyH.nil
    go_simp
    refine (si.out wX _ _ _ _ _ mX b6).mono ?_
    rintro e y7 ⟨rfl, b7⟩
    obtain ⟨i0, i1, i2⟩ := cells3 (b7.blk kdX (fun x => x))
    obtain ⟨j0, j1, j2⟩ := cells3 (b7.blk kM (fun x => x))
    go_wp2_with fail
    refine hK.out _ _ ?_ (fun hHeld => ?_)
    · go_keep
    clear hK K
    try simp only [Act.put, List.setIfInBounds_toArray, List.set_cons_zero, List.set_cons_succ]
    refine wpAnyH_take (i := 29) (oi := { dst := some 85, op := Op.unOp UnOp.not 4 (Operand.tmp 84), type := 4, pos := "law.go:158", after := #[{ on := 28, ground := Ground.data }, { on := 23, ground := Ground.guard }], guard := some (23, false) }) (v := ?_) rfl (by kernel_rfl) (by kernel_rfl) (by kernel_rfl) (fun _ _ _ h => h) (Or.inl ⟨by rfl, ?_⟩) (by assumption) ?_
    rotate_left
    · intro _ hSw
      try dsimp only at hSw
      first | (go_simp; done) | (go_simp; with_reducible rfl)
    try simp only [Act.put, List.setIfInBounds_toArray, List.set_cons_zero, List.set_cons_succ]
    refine wpAnyH_take (i := 30) (oi := { dst := some 86, op := Op.pick (Operand.tmp 79) (Operand.const (Value.bool true)) (Operand.tmp 85), type := 4, pos := "law.go:158", after := #[{ on := 23, ground := Ground.data }, { on := 29, ground := Ground.data }], guard := none }) (v := ?_) rfl (by kernel_rfl) (by kernel_rfl) (by kernel_rfl) (fun _ _ _ h => h) (Or.inl ⟨by rfl, ?_⟩) (by assumption) ?_
    rotate_left
    · intro _ hSw
      try dsimp only at hSw
      first | (go_simp; done) | (go_simp; with_reducible rfl)
    try simp only [Act.put, List.setIfInBounds_toArray, List.set_cons_zero, List.set_cons_succ]
    refine wpAnyH_done (by kernel_rfl) ?_ _
    clear i0 i1 i2 j0 j1 j2 b0 b1 h1 b2 b3 b4 b5 b6
    go_wp2_with fail
    refine (nu.out wX _ mX b7).mono ?_
    rintro e z1 ⟨p8, c8, rfl, b8⟩
    go_wp2_with fail
    go_loopw [9] (fun i wr => i = .int .i64 0 ∧ Same wX wr) (fun _ _ => 0)
    case atStart => exact ⟨rfl, b8⟩
    case round =>
    obtain ⟨rfl, hs⟩ := hrel
    rename World => wr
    clear b7 b8
    have hq0 : ∀ w, (binOp .eql 9 (tx []) (.string ⟨#[]⟩)).run Tryd.prog w = .ok (.bool true) w := fun _ => by kernel_rfl
    go_wp2_with fail
    refine (nil_error _).1.mono ?_
    rintro e _ ⟨rfl, rfl⟩
    go_wp2_with fail
    refine (nil_error _).2.1.mono ?_
    rintro e _ ⟨rfl, rfl⟩
    go_wp2_with fail
    refine (nil_error _).2.2.1.mono ?_
    rintro e _ ⟨rfl, rfl⟩
    go_wp2_with fail
    refine (nil_error _).2.2.2.1.mono ?_
    rintro e _ ⟨rfl, rfl⟩
    go_wp2_with fail
    refine (nil_error _).2.2.2.2.mono ?_
    rintro e _ ⟨rfl, rfl⟩
    go_wp2_with fail
    refine (nil_unwrap_Failed _).mono ?_
    rintro e _ ⟨rfl, rfl⟩
    go_wp2_with fail
    refine (nil_unwrap_Cancelled _).mono ?_
    rintro e _ ⟨rfl, rfl⟩
    go_wp2_with fail
    refine (nil_unwrap_Late _).mono ?_
    rintro e _ ⟨rfl, rfl⟩
    go_wp2_with fail
    refine (nil_unwrap_Panicked _).mono ?_
    rintro e _ ⟨rfl, rfl⟩
    go_wp2_with fail
    refine (nil_unwrap_At _).mono ?_
    rintro e _ ⟨rfl, rfl⟩
    go_wp2_with fail
    obtain ⟨j0, j1, j2⟩ := cells3 (hs.blk kM (fun x => x))
    have b0 : Same wX wr.drew := hs.drew
    go_region_held3 (fun w' => w'.cell? ⟨w9.heap.size, 0, none⟩ = some (.int .i64 0) ∧ w'.cell? ⟨w9.heap.size, 1, none⟩ = some (.int .i64 0) ∧ w'.cell? ⟨w9.heap.size, 2, none⟩ = some (.slice none 0 0)) (go_keep)
      (first
        | (go_at_call 21; refine (nu.out wX _ mX b1).mono ?_; rintro e u2 ⟨p9, c9, rfl, b2⟩; obtain ⟨j0, j1, j2⟩ := cells3 (b2.blk kM (fun x => x)))
        | (go_at_call 21; refine (tn.out wX _ mX b0).mono ?_; rintro e u1 ⟨rfl, b1⟩; obtain ⟨j0, j1, j2⟩ := cells3 (b1.blk kM (fun x => x)))
        | (go_at_call 22; refine (rn.out wX _ mX b2).mono ?_; rintro e u3 ⟨rfl, b3⟩; obtain ⟨j0, j1, j2⟩ := cells3 (b3.blk kM (fun x => x)))
        | (go_at_call 20; refine (si.out wX _ _ _ _ _ mX b3).mono ?_; rintro e u4 ⟨rfl, b4⟩; obtain ⟨j0, j1, j2⟩ := cells3 (b4.blk kM (fun x => x)))
        | (go_at_call 38; refine (wk.out wX _ mX b4).mono ?_; rintro e u5 ⟨rfl, b5⟩; obtain ⟨j0, j1, j2⟩ := cells3 (b5.blk kM (fun x => x))))
    go_wp2_with fail
    go_ret
    exact ⟨rfl, mX.trans b5⟩
  have hk1 : 1 ≤ K := by have := hD3.k0; omega
  have hk8 := hD3.k8
  refine (make_any hD3 hk1 a (hpg.same s3)).mono ?_
  rintro e w4 ⟨x, rfl, hE4, s4⟩
  obtain ⟨E, y, rfl⟩ : ∃ E y, x = .iface E y := by
    rcases ErrAt.shape hE4 with ⟨_, h1, h2⟩ | h
    · exfalso
      obtain rfl | rfl | rfl | rfl | rfl | rfl | rfl := k_cases hk1 hk8 <;> simp [bsOf, atsOf] at h1 h2
    · exact h
  have kd4 := s4.blk kd3 (fun x => x)
  have hI4 := hD3.i.same s4
  have m4 := s3.trans s4
  have hn64 := hD3.n64
  have hzlen := hD3.len
  have hz64 := hD3.z64
  have hz5 := hD3.z5
  clear kd3 s3 s4 hD3 hK0
  have hl4 : 1 < w4.heap.size := Nat.lt_of_lt_of_le hl m4.size
  have CL : ∀ W, Same w4 W → Calls Tryd.prog 13 #[.iface E y] W fun e W' => e = .returned (.int .i64 (refCls K n)) ∧ Same w4 W' := fun W h => by
    have := class_any W (hE4.same h) (hg.same (m4.trans h) hl) (Nat.lt_of_lt_of_le hl4 h.size)
    rw [bs_cls hk1 hk8] at this
    exact this.mono fun _ _ ⟨a, b⟩ => ⟨a, h.trans b⟩
  have RC : ∀ W, Same w4 W → Calls Tryd.prog 19 #[.agg #[.int .i64 K, .int .i64 n, .slice p zs.length cap]] W fun e W' => e = .returned (.int .i64 (refCls K n)) ∧ Same w4 W' := fun W h =>
    (refClass_ok W K n _ (by omega) hk8).mono fun _ _ ⟨a, b⟩ => ⟨a, h.trans b⟩
  have NU : ∀ W, Same w4 W → Calls Tryd.prog 21 #[.iface E y] W fun e W' => ∃ r, e = .returned r ∧ Ints W' r (atsOf K n zs) ∧ Same w4 W' := fun W h =>
    (numbers_ok W _ _ _ (hE4.same h) (by have := ats_len (K := K) (n := n) (zs := zs); omega) (hg.same (m4.trans h) hl) (Nat.lt_of_lt_of_le hl4 h.size)).mono fun _ _ ⟨r, a, b, c⟩ => ⟨r, a, b, h.trans c⟩
  have RN : ∀ W, Same w4 W → Calls Tryd.prog 22 #[.agg #[.int .i64 K, .int .i64 n, .slice p zs.length cap]] W fun e W' => ∃ r, e = .returned r ∧ Ints W' r (atsOf K n zs) ∧ Same w4 W' ∧ Same W W' := fun W h =>
    (refNum_ok W K n _ zs hk1 hk8 (by omega) (hI4.same h)).mono fun _ _ ⟨r, a, b, c⟩ => ⟨r, a, b, h.trans c, c⟩
  have SI : ∀ W u v, Same w4 W → Ints W u (atsOf K n zs) → Ints W v (atsOf K n zs) → Calls Tryd.prog 20 #[u, v] W fun e W' => e = .returned (.bool true) ∧ Same w4 W' := fun W u v h h1 h2 =>
    (sameInts_ok W u v _ h1 h2).mono fun _ _ ⟨a, b⟩ => ⟨a, h.trans b⟩
  have TX : ∀ W, Same w4 W → Calls Tryd.prog 23 #[.iface E y] W fun e W' => e = .returned (tx (atsText zs ++ refText K n)) ∧ Same w4 W' := fun W h => by
    have := text_any (atsOf K n zs) (bsOf K n a) W _ (hE4.same h) (by
      by_cases hb : bsOf K n a = none
      · left
        intro h1
        obtain rfl | rfl | rfl | rfl | rfl | rfl | rfl := k_cases hk1 hk8 <;> simp [bsOf, atsOf] at h1 hb
      · exact .inr hb) (ats_f64 hn64 hz64) (bs_fits hn64) (by have := ats_len (K := K) (n := n) (zs := zs); omega) (hp.same (m4.trans h)) (bs_plainAt (hpa.same (m4.trans h))) (bs_plainIs (hpg.same (m4.trans h)))
    rw [bs_text hk1 hk8] at this
    exact this.mono fun _ _ ⟨a, b⟩ => ⟨a, h.trans b⟩
  have RT : ∀ W, Same w4 W → Calls Tryd.prog 24 #[.agg #[.int .i64 K, .int .i64 n, .slice p zs.length cap]] W fun e W' => e = .returned (tx (atsText zs ++ refText K n)) ∧ Same w4 W' := fun W h =>
    (refText_ok W K n _ zs hk1 hk8 hn64 hz64 (by omega) (hp.same (m4.trans h)) (hI4.same h)).mono fun _ _ ⟨a, b⟩ => ⟨a, h.trans b⟩
  generalize hq : refCls K n = q at *
  generalize hT : atsText zs ++ refText K n = T at *
  generalize hA : atsOf K n zs = A at *
  go_wp2_with fail
  have c0 := kd4.cellAt 0 (v := .int .i64 K) rfl
  have c1 := kd4.cellAt 1 (v := .int .i64 n) rfl
  have c2 := kd4.cellAt 2 (v := .slice p zs.length cap) rfl
  have hT' := Lib.hid hT
  have hA' := Lib.hid hA
  have hq' := Lib.hid hq
  clear hT hA hq
  have cl := Lib.hid CL
  have rc := Lib.hid RC
  have nu := Lib.hid NU
  have rn := Lib.hid RN
  have si := Lib.hid SI
  have tx' := Lib.hid TX
  have rt := Lib.hid RT
  clear CL RC NU RN SI TX RT
  have s0 : Same w4 w4.drew := (Chg.refl _ _).drew
  go_region_held3 (fun w' => w'.cell? ⟨w.heap.size, 0, none⟩ = some (.int .i64 K) ∧ w'.cell? ⟨w.heap.size, 1, none⟩ = some (.int .i64 n) ∧ w'.cell? ⟨w.heap.size, 2, none⟩ = some (.slice p zs.length cap)) (go_keep)
    (first
      | (go_at_call 13; refine (cl.out _ s0).mono ?_; rintro e w5 ⟨rfl, g5⟩; obtain ⟨i0, i1, i2⟩ := cells3 (g5.blk kd4 (fun x => x)))
      | (go_at_call 19; refine (rc.out _ g5).mono ?_; rintro e w6 ⟨rfl, g6⟩; obtain ⟨i0, i1, i2⟩ := cells3 (g6.blk kd4 (fun x => x)))
      | (go_at_call 21; refine (nu.out _ g6).mono ?_; rintro e w7 ⟨r7, rfl, h7, g7⟩; obtain ⟨i0, i1, i2⟩ := cells3 (g7.blk kd4 (fun x => x)))
      | (go_at_call 22; refine (rn.out _ g7).mono ?_; rintro e w8 ⟨r8, rfl, h8, g8, t8⟩; have h78 := h7.same t8; obtain ⟨i0, i1, i2⟩ := cells3 (g8.blk kd4 (fun x => x)))
      | (go_at_call 20; refine (si.out _ _ _ g8 h78 h8).mono ?_; rintro e w9 ⟨rfl, g9⟩; obtain ⟨i0, i1, i2⟩ := cells3 (g9.blk kd4 (fun x => x)))
      | (go_at_call 23; refine (tx'.out _ g9).mono ?_; rintro e wa ⟨rfl, ga⟩; obtain ⟨i0, i1, i2⟩ := cells3 (ga.blk kd4 (fun x => x)))
      | (go_at_call 24; refine (rt.out _ ga).mono ?_; rintro e wb ⟨rfl, gb⟩; obtain ⟨i0, i1, i2⟩ := cells3 (gb.blk kd4 (fun x => x))))
  clear i0 i1 i2 s0 g5 g6 g7 h7 g8 t8 h8 h78 g9 ga c0 c1 c2 cl rc nu rn si tx' rt
  have mb := m4.trans gb
  have kdb := gb.blk kd4 (fun x => x)
  have hIb := hI4.same gb
  have hEb := hE4.same gb
  clear kd4 hI4 hE4 m4 gb hl4
  obtain ⟨i0, i1, i2⟩ := cells3 kdb
  go_wp2_with fail
  refine (wrap_ok wb number E y).mono ?_
  rintro e w' ⟨rfl, rfl⟩
  have kdl := kdb.lt
  obtain ⟨j0, j1, j2⟩ := cells3 (kdb.alloc (.cells #[.int .i64 number, .iface E y] 120))
  obtain ⟨l0, l1, l2⟩ := cells3 (((kdb.alloc (.cells #[.int .i64 number, .iface E y] 120)).alloc (.cells #[.int .i64 K, .int .i64 n, .slice p zs.length cap] 43)).alloc (.cells #[.int .i64 number] 3))
  have kA : Blk (((wb.alloc (.cells #[.int .i64 number, .iface E y] 120)).alloc (.cells #[.int .i64 K, .int .i64 n, .slice p zs.length cap] 43)).alloc (.cells #[.int .i64 number] 3)) wb.heap.size #[.int .i64 number, .iface E y] 120 := ((Blk.new _ _ _).alloc _).alloc _
  have kM : Blk (((wb.alloc (.cells #[.int .i64 number, .iface E y] 120)).alloc (.cells #[.int .i64 K, .int .i64 n, .slice p zs.length cap] 43)).alloc (.cells #[.int .i64 number] 3)) (wb.heap.size + 1) #[.int .i64 K, .int .i64 n, .slice p zs.length cap] 43 := (Blk.neww (by simp) _ _).alloc _
  have kN : Blk (((wb.alloc (.cells #[.int .i64 number, .iface E y] 120)).alloc (.cells #[.int .i64 K, .int .i64 n, .slice p zs.length cap] 43)).alloc (.cells #[.int .i64 number] 3)) (wb.heap.size + 1 + 1) #[.int .i64 number] 3 := Blk.neww (by simp) _ _
  have s7 : Same wb (((wb.alloc (.cells #[.int .i64 number, .iface E y] 120)).alloc (.cells #[.int .i64 K, .int .i64 n, .slice p zs.length cap] 43)).alloc (.cells #[.int .i64 number] 3)) := (((Chg.refl _ _).alloc _).alloc _).alloc _
  go_wp2_with (at_builtin; refine wpList_append_at _ (wb.heap.size + 1 + 1) number kN (.slice p zs.length cap) zs (hIb.same s7) (by omega) (wb.heap.size + 1 + 1) (Nat.le_refl _) rfl _ _ rfl rfl rfl rfl ?c1)
  case c1 =>
  intro v8 w8 ho hg8
  generalize (((wb.alloc (.cells #[.int .i64 number, .iface E y] 120)).alloc (.cells #[.int .i64 K, .int .i64 n, .slice p zs.length cap] 43)).alloc (.cells #[.int .i64 number] 3)) = w7 at *
  have G8 : Chg (fun j => j = wb.heap.size + 1 + 1) w7 w8 := ⟨hg8.os, hg8.tape, hg8.output, hg8.size, fun k hk hn => hg8.block k hk (fun e => hn (by simpa using e))⟩
  have kA8 := G8.blk kA (by omega)
  have kM8 := G8.blk kM (by omega)
  obtain ⟨L, hL⟩ : ∃ L, L = (number :: zs).length := ⟨_, rfl⟩
  rw [show 1 + zs.length = L by rw [hL]; simp; omega] at ho
  have hL' := Lib.hid hL
  have hLt : L ≤ 1001 := by rw [hL]; simp; omega
  have hLp : 1 ≤ L := by rw [hL]; simp
  clear hL
  obtain ⟨gg, cp, rfl, hgg, hggl⟩ := ho.form (by omega)
  have s8 : Same wb w8 := s7.trans' G8 (fun i hi e => by omega)
  obtain ⟨j0, j1, j2⟩ := cells3 kM8
  have f2 := kM8.free 2
  have zz := s7.size
  clear kA kM kN hg8 G8 l0 l1 l2 i0 i1 i2 s7
  have g10 : Chg (fun k => k = wb.heap.size + 1) w8 (w8.setCell ⟨wb.heap.size + 1, 2, none⟩ (.slice (some ⟨gg, 0, none⟩) (L) cp)) := Chg.setCell (S := fun k => k = wb.heap.size + 1) (p := ⟨wb.heap.size + 1, 2, none⟩) (Chg.refl _ _) (.inl rfl) _
  have sX : Same wb (w8.setCell ⟨wb.heap.size + 1, 2, none⟩ (.slice (some ⟨gg, 0, none⟩) (L) cp)) := s8.trans' g10 (fun i hi e => by omega)
  have kdX := sX.blk kdb (fun x => x)
  have kMX : Blk (w8.setCell ⟨wb.heap.size + 1, 2, none⟩ (.slice (some ⟨gg, 0, none⟩) (L) cp)) (wb.heap.size + 1) #[.int .i64 K, .int .i64 n, .slice (some ⟨gg, 0, none⟩) (L) cp] 43 := by
    have := kM8.set 2 (.slice (some ⟨gg, 0, none⟩) (L) cp)
    simpa using this
  have kAX := g10.blk kA8 (by omega)
  have hEX := hEb.same sX
  have hmsX : Ints (w8.setCell ⟨wb.heap.size + 1, 2, none⟩ (.slice (some ⟨gg, 0, none⟩) (L) cp)) (.slice (some ⟨gg, 0, none⟩) (L) cp) (number :: zs) := by
    have h1 : Ints w8 (.slice (some ⟨gg, 0, none⟩) (L) cp) (number :: zs) := ints_of_own (base := wb.heap.size + 1 + 1) (by rw [← hL'.out]; omega) (by rw [← hL'.out]; exact ho)
    exact h1.chg g10 (fun aa nn cc _ e => by cases e; show ¬ gg = wb.heap.size + 1; omega)
  have mX := mb.trans sX
  go_wp2_with fail
  generalize (w8.setCell ⟨wb.heap.size + 1, 2, none⟩ (.slice (some ⟨gg, 0, none⟩) (L) cp)) = wX at *
  have hmsl := hL'.out
  subst hmsl
  have hzm : (number :: zs).length ≤ 1001 := by simp; omega
  have hmf : ∀ m ∈ number :: zs, F64 m := by
    intro m hm
    rcases List.mem_cons.1 hm with rfl | h
    · exact hnum
    · exact hz64 m h
  have hDX : DescO (number :: A) (bsOf K n a) K n (number :: zs) := by rw [← hA'.out, ← ats_cons]; exact bs_desc hk1 hk8 hz5
  have hTX : eText (number :: A) (bsOf K n a) = atsText (number :: zs) ++ refText K n := by rw [← hA'.out, ← ats_cons]; exact bs_text hk1 hk8
  have hAX : atsOf K n (number :: zs) = number :: A := by rw [← hA'.out, ← ats_cons]
  have hAl : (number :: A).length ≤ 1002 := by have := ats_len (K := K) (n := n) (zs := zs); rw [hA'.out] at this; simp; omega
  have hAf : ∀ m ∈ number :: A, F64 m := by rw [← hAX]; exact ats_f64 hn64 hmf
  have hEA : ErrAt wX (number :: A) (bsOf K n a) (.iface 59 (.pointer (some ⟨wb.heap.size, 0, none⟩))) := ⟨wb.heap.size, .iface E y, rfl, kAX, hEX⟩
  have hcX : clsOf (number :: A) (bsOf K n a) = q := by rw [← hA'.out, bs_cls1 hk1 hk8, hq'.out]
  clear kdb hIb hEb kA8 kM8 ho s8 g10 sX kAX hEX hA' hT' hn0 mb
  have hneX : number :: A ≠ [] := by simp
  generalize hAM : number :: A = AM at *
  clear hL'
  generalize hms : number :: zs = ms at *
  clear hAM hms
  clear i0 i1 i2 j0 j1 j2 f2
  have hlX : 1 < wX.heap.size := Nat.lt_of_lt_of_le hl mX.size
  have TO : ∀ W, Same wX W → Calls Tryd.prog 27 #[.iface 59 (.pointer (some ⟨wb.heap.size, 0, none⟩))] W fun e W' => ∃ r, e = .returned (.agg #[.int .i64 K, .int .i64 n, r]) ∧ Ints W' r ms ∧ Same wX W' := fun W h =>
    (told_ok' W _ _ _ K n ms (hEA.same h) (by omega) hDX hn64).mono fun _ _ ⟨r, a, b, c⟩ => ⟨r, a, b, h.trans c⟩
  have RS : ∀ W u, Same wX W → Ints W u ms → Calls Tryd.prog 26 #[.agg #[.int .i64 K, .int .i64 n, u], .agg #[.int .i64 K, .int .i64 n, .slice (some ⟨gg, 0, none⟩) ms.length cp]] W fun e W' => e = .returned (.bool true) ∧ Same wX W' := fun W u h hu =>
    (refSame_ok W K n u _ ms hu (hmsX.same h)).mono fun _ _ ⟨a, b⟩ => ⟨a, h.trans b⟩
  have TX : ∀ W, Same wX W → Calls Tryd.prog 23 #[.iface 59 (.pointer (some ⟨wb.heap.size, 0, none⟩))] W fun e W' => e = .returned (tx (atsText ms ++ refText K n)) ∧ Same wX W' := fun W h => by
    have := text_any AM (bsOf K n a) W _ (hEA.same h) (.inl hneX) hAf (bs_fits hn64) (by omega) (hp.same (mX.trans h)) (bs_plainAt (hpa.same (mX.trans h))) (bs_plainIs (hpg.same (mX.trans h)))
    rw [hTX] at this
    exact this.mono fun _ _ ⟨a, b⟩ => ⟨a, h.trans b⟩
  have RT : ∀ W, Same wX W → Calls Tryd.prog 24 #[.agg #[.int .i64 K, .int .i64 n, .slice (some ⟨gg, 0, none⟩) ms.length cp]] W fun e W' => e = .returned (tx (atsText ms ++ refText K n)) ∧ Same wX W' := fun W h =>
    (refText_ok W K n _ ms hk1 hk8 hn64 hmf (by omega) (hp.same (mX.trans h)) (hmsX.same h)).mono fun _ _ ⟨a, b⟩ => ⟨a, h.trans b⟩
  have CL : ∀ W, Same wX W → Calls Tryd.prog 13 #[.iface 59 (.pointer (some ⟨wb.heap.size, 0, none⟩))] W fun e W' => e = .returned (.int .i64 q) ∧ Same wX W' := fun W h => by
    have := class_any W (hEA.same h) (hg.same (mX.trans h) hl) (Nat.lt_of_lt_of_le hlX h.size)
    rw [hcX] at this
    exact this.mono fun _ _ ⟨a, b⟩ => ⟨a, h.trans b⟩
  have RC : ∀ W, Same wX W → Calls Tryd.prog 19 #[.agg #[.int .i64 K, .int .i64 n, .slice p zs.length cap]] W fun e W' => e = .returned (.int .i64 q) ∧ Same wX W' := fun W h => by
    have := refClass_ok W K n (.slice p zs.length cap) (by omega) hk8
    rw [hq'.out] at this
    exact this.mono fun _ _ ⟨a, b⟩ => ⟨a, h.trans b⟩
  have NU : ∀ W, Same wX W → Calls Tryd.prog 21 #[.iface 59 (.pointer (some ⟨wb.heap.size, 0, none⟩))] W fun e W' => ∃ r, e = .returned r ∧ OwnInts W W' r AM ∧ Same wX W' ∧ Same W W' := fun W h =>
    (numbers_own W _ _ _ (hEA.same h) (by omega) (hg.same (mX.trans h) hl) (Nat.lt_of_lt_of_le hlX h.size)).mono fun _ _ ⟨r, a, b, c⟩ => ⟨r, a, b, h.trans c, c⟩
  have RN : ∀ W, Same wX W → Calls Tryd.prog 22 #[.agg #[.int .i64 K, .int .i64 n, .slice (some ⟨gg, 0, none⟩) ms.length cp]] W fun e W' => ∃ r, e = .returned r ∧ Ints W' r AM ∧ Same wX W' ∧ Same W W' := fun W h => by
    have := refNum_ok W K n _ ms hk1 hk8 (by omega) (hmsX.same h)
    rw [hAX] at this
    exact this.mono fun _ _ ⟨r, a, b, c⟩ => ⟨r, a, b, h.trans c, c⟩
  have SI : ∀ W u v, Same wX W → Ints W u AM → Ints W v AM → Calls Tryd.prog 20 #[u, v] W fun e W' => e = .returned (.bool true) ∧ Same wX W' := fun W u v h h1 h2 =>
    (sameInts_ok W u v _ h1 h2).mono fun _ _ ⟨a, b⟩ => ⟨a, h.trans b⟩
  have TN : ∀ W, Same wX W → Calls Tryd.prog 21 #[.iface 59 (.pointer none)] W fun e W' => e = .returned (.slice none 0 0) ∧ Same wX W' := fun W h =>
    (numbers_typednil W (hg.same (mX.trans h) hl) (Nat.lt_of_lt_of_le hlX h.size)).mono fun _ _ ⟨a, b⟩ => ⟨a, h.trans b⟩
  have WK : ∀ W, Same wX W → Calls Tryd.prog 38 #[] W fun e W' => e = .returned (.bool true) ∧ Same wX W' := fun W h =>
    (works12 W (hg.same (mX.trans h) hl) (Nat.lt_of_lt_of_le hlX h.size) (hp.same (mX.trans h))).mono fun _ _ ⟨a, b⟩ => ⟨a, h.trans b⟩
  generalize hT : atsText ms ++ refText K n = T2 at *
  clear hT hTX hDX hcX hAX hAf hmf hEA hq' hmsX
  have to' := Lib.hid TO
  have rs := Lib.hid RS
  have cl := Lib.hid CL
  have rc := Lib.hid RC
  have nu := Lib.hid NU
  have rn := Lib.hid RN
  have si := Lib.hid SI
  have tx' := Lib.hid TX
  have rt := Lib.hid RT
  have tn := Lib.hid TN
  have wk := Lib.hid WK
  clear TO RS CL RC NU RN SI TX RT TN WK
  obtain ⟨i0, i1, i2⟩ := cells3 kdX
  obtain ⟨j0, j1, j2⟩ := cells3 kMX
  have s0 : Same wX wX.drew := (Chg.refl _ _).drew
  go_region_held3 (fun w' => w'.cell? ⟨w.heap.size, 0, none⟩ = some (.int .i64 K) ∧ w'.cell? ⟨w.heap.size, 1, none⟩ = some (.int .i64 n) ∧ w'.cell? ⟨w.heap.size, 2, none⟩ = some (.slice p zs.length cap) ∧ w'.cell? ⟨wb.heap.size + 1, 0, none⟩ = some (.int .i64 K) ∧ w'.cell? ⟨wb.heap.size + 1, 1, none⟩ = some (.int .i64 n) ∧ w'.cell? ⟨wb.heap.size + 1, 2, none⟩ = some (.slice (some ⟨gg, 0, none⟩) ms.length cp)) (go_keep)
    (first
      | (go_at_call 27; refine (to'.out _ s0).mono ?_; rintro e y1 ⟨r1, rfl, h1, g1⟩; obtain ⟨i0, i1, i2⟩ := cells3 (g1.blk kdX (fun x => x)); obtain ⟨j0, j1, j2⟩ := cells3 (g1.blk kMX (fun x => x)))
      | (go_at_call 26; refine (rs.out _ _ g1 h1).mono ?_; rintro e y2 ⟨rfl, g2⟩; obtain ⟨i0, i1, i2⟩ := cells3 (g2.blk kdX (fun x => x)); obtain ⟨j0, j1, j2⟩ := cells3 (g2.blk kMX (fun x => x)))
      | (go_at_call 23; refine (tx'.out _ g2).mono ?_; rintro e y3 ⟨rfl, g3⟩; obtain ⟨i0, i1, i2⟩ := cells3 (g3.blk kdX (fun x => x)); obtain ⟨j0, j1, j2⟩ := cells3 (g3.blk kMX (fun x => x)))
      | (go_at_call 24; refine (rt.out _ g3).mono ?_; rintro e y4 ⟨rfl, g4⟩; obtain ⟨i0, i1, i2⟩ := cells3 (g4.blk kdX (fun x => x)); obtain ⟨j0, j1, j2⟩ := cells3 (g4.blk kMX (fun x => x)))
      | (go_at_call 13; refine (cl.out _ g4).mono ?_; rintro e y5 ⟨rfl, g5⟩; obtain ⟨i0, i1, i2⟩ := cells3 (g5.blk kdX (fun x => x)); obtain ⟨j0, j1, j2⟩ := cells3 (g5.blk kMX (fun x => x)))
      | (go_at_call 19; refine (rc.out _ g5).mono ?_; rintro e y6 ⟨rfl, g6⟩; obtain ⟨i0, i1, i2⟩ := cells3 (g6.blk kdX (fun x => x)); obtain ⟨j0, j1, j2⟩ := cells3 (g6.blk kMX (fun x => x)))
      | (go_at_call 21; refine (nu.out _ g6).mono ?_; rintro e y7 ⟨r7, rfl, h7, g7, t7⟩; obtain ⟨i0, i1, i2⟩ := cells3 (g7.blk kdX (fun x => x)); obtain ⟨j0, j1, j2⟩ := cells3 (g7.blk kMX (fun x => x)))
      | (go_at_call 22; refine (rn.out _ g7).mono ?_; rintro e y8 ⟨r8, rfl, h8, g8, t8⟩; have h78 := Ints.same (ints_of_own (by omega) h7) t8; obtain ⟨i0, i1, i2⟩ := cells3 (g8.blk kdX (fun x => x)); obtain ⟨j0, j1, j2⟩ := cells3 (g8.blk kMX (fun x => x)))
      | (go_at_call 20; refine (si.out _ _ _ g8 h78 h8).mono ?_; rintro e y9 ⟨rfl, g9⟩; obtain ⟨i0, i1, i2⟩ := cells3 (g9.blk kdX (fun x => x)); obtain ⟨j0, j1, j2⟩ := cells3 (g9.blk kMX (fun x => x))))
  clear i0 i1 i2 j0 j1 j2 s0 g1 h1 g2 g3 g4 g5 g6 h7 g7 t7 h8 g8 t8 h78 to' rs cl rc tx' rt
  go_wp2_with fail
  refine (nu.out _ g9).mono ?_
  rintro e z1 ⟨rl, rfl, hrl, g10, _⟩
  obtain ⟨rg, rc, rfl, hrg, hrgl⟩ := hrl.form (by cases AM with | nil => exact absurd rfl hneX | cons => simp)
  have hzg : wX.heap.size ≤ rg := Nat.le_trans g9.size hrg
  clear g9
  unfold OwnInts at hrl
  generalize y9.heap.size = bs at *
  have hAi : ((AM.length : Nat) : Int) ≤ 1002 := by omega
  go_wp2_with fail
  go_loopw [9] (fun i wr => ∃ (k : Nat) (xs : List Int), k ≤ AM.length ∧ i = .int .i64 k ∧ wr.ownsRow bs 3 1 (.slice (some ⟨rg, 0, none⟩) AM.length rc) AM.length (xs.map (Value.int .i64)) ∧ Same wX wr) (fun i _ => AM.length - (intOf i).toNat)
  case atStart => exact ⟨0, AM, by omega, rfl, hrl, g10⟩
  case round =>
  obtain ⟨k, xs, hk, rfl, ho, hs⟩ := hrel
  rename World => wr
  clear hrl g10
  by_cases hkn : k < AM.length
  · have hxl : xs.length = AM.length := by have := ho.1; simpa using this
    have hc := ho.cellAt k (by omega)
    have hfz := ho.frozenAt k
    obtain ⟨hst, _⟩ := ho.stored k (.int .i64 (-5))
    rw [List.getElem?_map, List.getElem?_eq_getElem (by omega)] at hc
    rw [show (xs.map (Value.int .i64)).set k (.int .i64 (-5)) = (xs.set k (-5)).map (Value.int .i64) by simp [List.map_set]] at hst
    have g11 : Chg (fun j => j = rg) wr (wr.setCell ⟨rg, k, none⟩ (.int .i64 (-5))) := Chg.setCell (S := fun j => j = rg) (p := ⟨rg, k, none⟩) (Chg.refl _ _) (.inl rfl) _
    have hs2 : Same wX (wr.setCell ⟨rg, k, none⟩ (.int .i64 (-5))) := hs.trans' g11 (fun i hi e => by omega)
    generalize hxs : xs.set k (-5) = xs2 at *
    simp only [Option.map_some] at hc
    generalize xs[k] = x0 at *
    clear hxs hxl ho g11
    go_wp2_with fail
    go_roundw
    case rel => exact ⟨k + 1, xs2, by omega, by simp, hst, hs2⟩
    case measure => simp [intOf]; omega
  clear ho
  have hq0 : ∀ w, (binOp .eql 9 (tx []) (.string ⟨#[]⟩)).run Tryd.prog w = .ok (.bool true) w := fun _ => by kernel_rfl
  go_wp2_with fail
  refine (nil_error _).1.mono ?_
  rintro e _ ⟨rfl, rfl⟩
  go_wp2_with fail
  refine (nil_error _).2.1.mono ?_
  rintro e _ ⟨rfl, rfl⟩
  go_wp2_with fail
  refine (nil_error _).2.2.1.mono ?_
  rintro e _ ⟨rfl, rfl⟩
  go_wp2_with fail
  refine (nil_error _).2.2.2.1.mono ?_
  rintro e _ ⟨rfl, rfl⟩
  go_wp2_with fail
  refine (nil_error _).2.2.2.2.mono ?_
  rintro e _ ⟨rfl, rfl⟩
  go_wp2_with fail
  refine (nil_unwrap_Failed _).mono ?_
  rintro e _ ⟨rfl, rfl⟩
  go_wp2_with fail
  refine (nil_unwrap_Cancelled _).mono ?_
  rintro e _ ⟨rfl, rfl⟩
  go_wp2_with fail
  refine (nil_unwrap_Late _).mono ?_
  rintro e _ ⟨rfl, rfl⟩
  go_wp2_with fail
  refine (nil_unwrap_Panicked _).mono ?_
  rintro e _ ⟨rfl, rfl⟩
  go_wp2_with fail
  refine (nil_unwrap_At _).mono ?_
  rintro e _ ⟨rfl, rfl⟩
  go_wp2_with fail
  have kMw := hs.blk kMX (fun x => x)
  obtain ⟨j0, j1, j2⟩ := cells3 kMw
  have s0 : Same wX wr.drew := hs.drew
  go_region_held3 (fun w' => w'.cell? ⟨wb.heap.size + 1, 0, none⟩ = some (.int .i64 K) ∧ w'.cell? ⟨wb.heap.size + 1, 1, none⟩ = some (.int .i64 n) ∧ w'.cell? ⟨wb.heap.size + 1, 2, none⟩ = some (.slice (some ⟨gg, 0, none⟩) ms.length cp)) (go_keep)
    (first
      | (go_at_call 21; refine (nu.out _ b1).mono ?_; rintro e u2 ⟨x2, rfl, c2, b2, t2⟩; obtain ⟨j0, j1, j2⟩ := cells3 (b2.blk kMX (fun x => x)))
      | (go_at_call 21; refine (tn.out _ s0).mono ?_; rintro e u1 ⟨rfl, b1⟩; obtain ⟨j0, j1, j2⟩ := cells3 (b1.blk kMX (fun x => x)))
      | (go_at_call 22; refine (rn.out _ b2).mono ?_; rintro e u3 ⟨x3, rfl, c3, b3, t3⟩; have c23 := Ints.same (ints_of_own (by omega) c2) t3; obtain ⟨j0, j1, j2⟩ := cells3 (b3.blk kMX (fun x => x)))
      | (go_at_call 20; refine (si.out _ _ _ b3 c23 c3).mono ?_; rintro e u4 ⟨rfl, b4⟩; obtain ⟨j0, j1, j2⟩ := cells3 (b4.blk kMX (fun x => x)))
      | (go_at_call 38; refine (wk.out _ b4).mono ?_; rintro e u5 ⟨rfl, b5⟩; obtain ⟨j0, j1, j2⟩ := cells3 (b5.blk kMX (fun x => x))))
  go_wp2_with fail
  go_ret
  exact ⟨rfl, mX.trans b5⟩
end Go.Proofs.YtgdjbfcdkibdbaaDoor
