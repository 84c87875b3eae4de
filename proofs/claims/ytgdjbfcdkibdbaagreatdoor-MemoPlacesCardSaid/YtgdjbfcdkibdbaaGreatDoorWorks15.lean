/- treadlelaw15.works answers true and leaves all memory as it was. Conditions: errors.errorType, math/bits.deBruijn64tab hold what the program lays. -/
import Derived.Test.YtgdjbfcdkibdbaaGreatDoorMemoW
import Derived.Test.YtgdjbfcdkibdbaaGreatDoorClass
namespace Go.Proofs.YtgdjbfcdkibdbaaGreatDoor
open Go Go.RowKit
set_option maxRecDepth 100000
set_option maxHeartbeats 4000000
theorem PlaceAt.chg {S : Nat → Prop} {w w' : World} {cs : Array Value} {i lo hh c b s l lb hb q : Nat} {key st last head v0 : Int} {pl : Array Value} {x0 : Value} (P : PlaceAt w cs i lo hh c b s l lb hb q key st last head v0 pl x0) (hs : Chg S w w') (hS : ∀ k, lo ≤ k → k < hh → ¬ S k) : PlaceAt w' cs i lo hh c b s l lb hb q key st last head v0 pl x0 := by
  obtain ⟨l1, l2, l3, l4, l5, l6, l7⟩ := P.lo
  obtain ⟨u1, u2, u3, u4, u5, u6, u7⟩ := P.hi
  exact ⟨P.k0, P.k1, P.cell.chg hs (hS _ l1 u1), P.fut.chg hs (hS _ l2 u2) (hS _ l3 u3) (hS _ l4 u4) (hS _ l5 u5) (hS _ l6 u6) (hS _ l7 u7), P.nec, P.lo, P.hi⟩
theorem wget_value {W : World} {m pb mb bb : Nat} {cs : Array Value} (hM : MemoB W m pb 2 cs) (ht : Tab W) (hmb : Blk W mb #[.pointer (some ⟨m, 0, none⟩)] 23) {j : Int} (hbb : Blk W bb #[.int .i64 j] 3) (j0 : 0 ≤ j) (j1 : j ≤ 100) (key : Int) (k0 : 0 ≤ key) (k1 : key ≤ 100) (i : Nat) (hi : placeOf 1 key = i) (hin : i < 2)
    {lo hh c b s l lb hb q : Nat} {last v0 : Int} {pl : Array Value} {x0 : Value} (P : PlaceAt W cs i lo hh c b s l lb hb q 0 0 last 0 v0 pl x0) (hbl : hh ≤ bb) (hm1 : m < bb) (hp1 : pb < bb) :
    Calls Tryz.prog 73 #[.int .i64 key, .nilIface, .pointer (some ⟨mb, 0, none⟩), .pointer (some ⟨bb, 0, none⟩)] W fun e W' => e = .returned (.tuple #[.int .i64 (10 * key), .nilIface, .bool true]) ∧
      (CellAt W' c (key + 1) ∧ FutAt W' b s l lb hb q 2 last (-1) pl (10 * key) .nilIface ∧ Blk W' bb #[.int .i64 (j + 1)] 3 ∧ Chg (fun k => GetS c b s hb k ∨ k = bb) W W') := by
  obtain ⟨u1, u2, u3, u4, u5, u6, u7⟩ := P.hi
  have hbbl := hbb.lt
  refine wget W key .nilIface mb bb m (.inl rfl) hmb _ _ _ _ (fun W' sW kk ke => ?_)
  refine (get_value 1 (by omega) 2 rfl (hM.chg sW (fun x => x) (fun x => x)) (ht.same sW) key k0 (by omega) i hi hin (P.chg sW (fun _ _ _ x => x)) _ _ (10 * key) (fun k => k = bb) (fun W => Blk W bb #[.int .i64 (j + 1)] 3) (fun _ _ => by kernel_rfl) (fun W'' g => ?_) (fun _ _ _ hr hg hn => hg.blk hr (hn _ rfl)) (fun k hk => by subst hk; have := sW.size; omega)).mono ?_
  · exact wbuild_nil W'' bb _ _ j key (g.blk (sW.blk hbb (fun x => x)) (by omega)) (g.blk kk (by omega)) (g.blk ke (by omega)) j0 j1 k0 k1
  · rintro e W3 ⟨he, h1, h2, h3, h4⟩
    exact ⟨he, h1, h2, h3, (sW.mono (fun _ _ e => absurd e (fun x => x))).trans h4⟩
theorem wget_fail {W : World} {m pb mb bb : Nat} {cs : Array Value} (hM : MemoB W m pb 2 cs) (ht : Tab W) (hmb : Blk W mb #[.pointer (some ⟨m, 0, none⟩)] 23) {j : Int} (hbb : Blk W bb #[.int .i64 j] 3) (j0 : 0 ≤ j) (j1 : j ≤ 100) (key : Int) (k0 : 0 ≤ key) (k1 : key ≤ 100) (i : Nat) (hi : placeOf 1 key = i) (hin : i < 2) (E : TypeId) (y : Value)
    {lo hh c b s l lb hb q : Nat} {last v0 : Int} {pl : Array Value} {x0 : Value} (P : PlaceAt W cs i lo hh c b s l lb hb q 0 0 last 0 v0 pl x0) (hbl : hh ≤ bb) (hm1 : m < bb) (hp1 : pb < bb) :
    Calls Tryz.prog 73 #[.int .i64 key, .iface E y, .pointer (some ⟨mb, 0, none⟩), .pointer (some ⟨bb, 0, none⟩)] W fun e W' => e = .returned (.tuple #[.int .i64 0, .iface E y, .bool true]) ∧
      (CellAt W' c (key + 1) ∧ FutAt W' b s l lb hb q 3 last (-1) pl 0 (.iface E y) ∧ Blk W' bb #[.int .i64 (j + 1)] 3 ∧ Chg (fun k => GetS c b s hb k ∨ k = bb) W W') := by
  obtain ⟨u1, u2, u3, u4, u5, u6, u7⟩ := P.hi
  have hbbl := hbb.lt
  refine wget W key (.iface E y) mb bb m (.inr ⟨_, _, rfl⟩) hmb _ _ _ _ (fun W' sW kk ke => ?_)
  refine (get_fail 1 (by omega) 2 rfl (hM.chg sW (fun x => x) (fun x => x)) (ht.same sW) key k0 (by omega) i hi hin (P.chg sW (fun _ _ _ x => x)) _ _ (10 * key) E y (fun k => k = bb) (fun W => Blk W bb #[.int .i64 (j + 1)] 3) (fun _ _ => by kernel_rfl) (fun W'' g => ?_) (fun _ _ _ hr hg hn => hg.blk hr (hn _ rfl)) (fun k hk => by subst hk; have := sW.size; omega)).mono ?_
  · exact wbuild_err W'' bb _ _ j key E y (g.blk (sW.blk hbb (fun x => x)) (by omega)) (g.blk kk (by omega)) (g.blk ke (by omega)) j0 j1 k0 k1
  · rintro e W3 ⟨he, h1, h2, h3, h4⟩
    exact ⟨he, h1, h2, h3, (sW.mono (fun _ _ e => absurd e (fun x => x))).trans h4⟩
theorem wget_old {W : World} {m pb mb bb : Nat} {cs : Array Value} (hM : MemoB W m pb 2 cs) (ht : Tab W) (hmb : Blk W mb #[.pointer (some ⟨m, 0, none⟩)] 23) (key : Int) (k0 : 0 ≤ key) (k1 : key ≤ 100) (i : Nat) (hi : placeOf 1 key = i) (hin : i < 2)
    {c b s l lb hb q : Nat} {st last head v0 : Int} {pl : Array Value} {x0 : Value} (h0 : cs[2 * i]? = some (.pointer (some ⟨c, 0, none⟩))) (h1 : cs[2 * i + 1]? = some (.pointer (some ⟨b, 0, none⟩))) (hc : CellAt W c (key + 1)) (hF : FutAt W b s l lb hb q st last head pl v0 x0) (hst : 2 ≤ st) :
    Calls Tryz.prog 73 #[.int .i64 key, .nilIface, .pointer (some ⟨mb, 0, none⟩), .pointer (some ⟨bb, 0, none⟩)] W fun e W' => e = .returned (.tuple #[.int .i64 v0, x0, .bool false]) ∧ Same W W' := by
  refine wget W key .nilIface mb bb m (.inl rfl) hmb _ _ _ _ (fun W' sW kk ke => ?_)
  refine (get_old 1 (by omega) 2 rfl (hM.chg sW (fun x => x) (fun x => x)) (ht.same sW) key k0 (by omega) i hi hin h0 h1 (hc.chg sW (fun x => x)) (hF.chg sW (fun x => x) (fun x => x) (fun x => x) (fun x => x) (fun x => x) (fun x => x)) hst _ _).mono ?_
  rintro e W3 ⟨he, h1⟩
  exact ⟨he, sW.trans h1⟩
theorem wget_full {W : World} {m pb mb bb : Nat} {cs : Array Value} (hM : MemoB W m pb 2 cs) (ht : Tab W) (hmb : Blk W mb #[.pointer (some ⟨m, 0, none⟩)] 23) (c0 b0 c1 b1 : Nat) (g0 : cs[0]? = some (.pointer (some ⟨c0, 0, none⟩))) (g1 : cs[1]? = some (.pointer (some ⟨b0, 0, none⟩))) (g2 : cs[2]? = some (.pointer (some ⟨c1, 0, none⟩))) (g3 : cs[3]? = some (.pointer (some ⟨b1, 0, none⟩)))
    (hc0 : CellAt W c0 3) (hc1 : CellAt W c1 2) :
    Calls Tryz.prog 73 #[.int .i64 3, .nilIface, .pointer (some ⟨mb, 0, none⟩), .pointer (some ⟨bb, 0, none⟩)] W fun e W' => e = .returned (.tuple #[.int .i64 0, num 12, .bool false]) ∧ Same W W' := by
  refine wget W 3 .nilIface mb bb m (.inl rfl) hmb _ _ _ _ (fun W' sW kk ke => ?_)
  refine (get_full (hM.chg sW (fun x => x) (fun x => x)) (ht.same sW) c0 b0 c1 b1 g0 g1 g2 g3 (hc0.chg sW (fun x => x)) (hc1.chg sW (fun x => x)) _ _).mono ?_
  rintro e W3 ⟨he, h1⟩
  exact ⟨he, sW.trans h1⟩
end Go.Proofs.YtgdjbfcdkibdbaaGreatDoor
