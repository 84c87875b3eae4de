/- What FaultTells asks of errors, of whatever kind. Conditions: errors.errorType, internal/strconv.uint64pow10, treadlelaw12.plain hold what the program lays. -/
import Derived.Test.YtgdjbfcdkibdbaaDoorTold
import Derived.Test.YtgdjbfcdkibdbaaDoorRefN
import Derived.Test.YtgdjbfcdkibdbaaDoorWorks12
namespace Go.Proofs.YtgdjbfcdkibdbaaDoor
open Go Go.RowKit Go.Sort
set_option maxRecDepth 100000
set_option maxHeartbeats 1000000
/-- What a description makes. -/
def bsOf (K n : Int) (a : Addr) : Option Base :=
  if K = 1 then some (.failed n) else if K = 2 then some (.cancelled n) else if K = 3 then some (.late n) else if K = 4 then some (.panicked (.iface 2 (.int .i64 n))) else if K = 5 then some (.plain a) else if K = 7 then some (.errno n) else none
theorem k_cases {K : Int} (h0 : 1 ≤ K) (h1 : K < 8) : K = 1 ∨ K = 2 ∨ K = 3 ∨ K = 4 ∨ K = 5 ∨ K = 6 ∨ K = 7 := by omega
theorem bs_cls {K n : Int} {a : Addr} {zs : List Int} (h0 : 1 ≤ K) (h1 : K < 8) : clsOf (atsOf K n zs) (bsOf K n a) = refCls K n := by
  obtain rfl | rfl | rfl | rfl | rfl | rfl | rfl := k_cases h0 h1 <;> simp [clsOf, bsOf, atsOf, refCls, Base.cls]
theorem bs_cls1 {K n m : Int} {a : Addr} {zs : List Int} (h0 : 1 ≤ K) (h1 : K < 8) : clsOf (m :: atsOf K n zs) (bsOf K n a) = refCls K n := by
  obtain rfl | rfl | rfl | rfl | rfl | rfl | rfl := k_cases h0 h1 <;> simp [clsOf, bsOf, atsOf, refCls, Base.cls]
theorem eText_app (zs l : List Int) (B : Option Base) : eText (zs ++ l) B = atsText zs ++ eText l B := by
  induction zs with
  | nil => simp [atsText]
  | cons m zs ih => simp [atsText, eText, ih, List.append_assoc]
theorem eText_nil (zs : List Int) (B : Option Base) : eText zs B = atsText zs ++ oText B := by
  have h := eText_app zs [] B
  simpa [eText] using h
theorem bs_text {K n : Int} {a : Addr} {zs : List Int} (h0 : 1 ≤ K) (h1 : K < 8) : eText (atsOf K n zs) (bsOf K n a) = atsText zs ++ refText K n := by
  obtain rfl | rfl | rfl | rfl | rfl | rfl | rfl := k_cases h0 h1
  case inr.inr.inr.inr.inr.inl => simp [bsOf, atsOf, refText, eText_app, eText, oText]
  all_goals simp [atsOf, bsOf, refText, eText_nil, oText, bText]
theorem bs_desc {K n : Int} {a : Addr} {zs : List Int} (h0 : 1 ≤ K) (h1 : K < 8) (h5 : K = 5 → n = 0) : DescO (atsOf K n zs) (bsOf K n a) K n zs := by
  obtain rfl | rfl | rfl | rfl | rfl | rfl | rfl := k_cases h0 h1
  · exact ⟨⟨rfl, rfl⟩, rfl⟩
  · exact ⟨⟨rfl, rfl⟩, rfl⟩
  · exact ⟨⟨rfl, rfl⟩, rfl⟩
  · exact ⟨⟨rfl, pnum_int64 n⟩, rfl⟩
  · exact ⟨⟨rfl, h5 rfl⟩, rfl⟩
  · exact .inr ⟨rfl, rfl⟩
  · exact ⟨⟨rfl, rfl⟩, rfl⟩
theorem bs_fits {K n : Int} {a : Addr} (hn : F64 n) : oFits (bsOf K n a) := by
  unfold bsOf
  repeat' split
  all_goals first | exact hn | trivial
theorem bs_plainAt {w : World} {K n : Int} {a : Addr} (h : PlainAt w (some (.plain a))) : PlainAt w (bsOf K n a) := by
  unfold bsOf
  repeat' split
  all_goals first | exact h | trivial
theorem bs_plainIs {w : World} {K n : Int} {a : Addr} (h : PlainG w a) : PlainIs w (bsOf K n a) := by
  unfold bsOf
  repeat' split
  all_goals first | exact h | trivial
theorem ats_cons {K n m : Int} {zs : List Int} : atsOf K n (m :: zs) = m :: atsOf K n zs := by unfold atsOf; split <;> rfl
theorem ats_len {K n : Int} {zs : List Int} : (atsOf K n zs).length ≤ zs.length + 1 := by unfold atsOf; split <;> simp
theorem ats_f64 {K n : Int} {zs : List Int} (hn : F64 n) (hz : ∀ m ∈ zs, F64 m) : ∀ m ∈ atsOf K n zs, F64 m := by
  intro m hm
  unfold atsOf at hm
  split at hm
  · rcases List.mem_append.1 hm with h | h
    · exact hz m h
    · simp at h; subst h; exact hn
  · exact hz m hm
/-- A description that was brought. -/
structure Descr (w : World) (K n : Int) (v : Value) (zs : List Int) : Prop where
  k0 : 0 ≤ K
  k8 : K < 8
  n64 : F64 n
  i : Ints w v zs
  len : zs.length ≤ 1000
  z64 : ∀ m ∈ zs, F64 m
  z0 : K = 0 → n = 0 ∧ v = .slice none 0 0 ∧ zs = []
  z5 : K = 5 → n = 0
def Brought (w : World) (v0 : Value) (zs0 : List Int) (e : Ending) (w' : World) : Prop := ∃ K n v zs, e = .returned (.agg #[.int .i64 K, .int .i64 n, v]) ∧ Descr w' K n v zs ∧ Same w w' ∧ (∀ aa nn cc, v = .slice (some aa) nn cc → ∃ n' c', v0 = .slice (some aa) n' c') ∧ (zs ≠ [] → zs0 ≠ [])
theorem SameAt.of {v v' : Value} (h : SameAt v v') : ∀ aa nn cc, v' = .slice (some aa) nn cc → ∃ n' c', v = .slice (some aa) n' c' := by
  obtain ⟨p, n, c, n', c', rfl, rfl⟩ := h
  intro aa nn cc e
  cases e
  exact ⟨_, _, rfl⟩
theorem brought_any (w : World) (k n : Int) (v : Value) (zs : List Int) (h0 : -9223372036854775808 ≤ k) (h1 : k ≤ 9223372036854775807) (hn : F64 n) (hv : Ints w v zs) (hz : ∀ m ∈ zs, F64 m) :
    Calls Tryd.prog 17 #[.agg #[.int .i64 k, .int .i64 n, v]] w (Brought w v zs) := by
  have hr := bKind_range k
  have hlt : (zs.take 1000).length ≤ 1000 := by rw [List.length_take]; omega
  by_cases hk0 : bKind k = 0
  · refine (brought_0 w k n v zs hv hk0).mono ?_
    rintro e w' ⟨rfl, s⟩
    exact ⟨0, 0, .slice none 0 0, [], rfl, ⟨by omega, by omega, ⟨by decide, by decide⟩, ⟨by simp, .inl ⟨none, 0, rfl, rfl⟩⟩, by simp, by simp, fun _ => ⟨rfl, rfl, rfl⟩, (fun h => absurd h (by decide))⟩, s, (fun aa nn cc e => by cases e), fun h => absurd rfl h⟩
  by_cases hk5 : bKind k = 5
  · refine (brought_5 w k n v zs hv hk5).mono ?_
    rintro e w' ⟨v', rfl, hv', s, hsa⟩
    exact ⟨5, 0, v', _, rfl, ⟨by omega, by omega, ⟨by decide, by decide⟩, hv', hlt, fun m hm => hz m (List.mem_of_mem_take hm), (fun h => absurd h (by decide)), fun _ => rfl⟩, s, hsa.of, fun h e => h (by rw [e]; rfl)⟩
  · refine (brought_at w k n v zs h0 h1 hv hk0 hk5).mono ?_
    rintro e w' ⟨v', rfl, hv', s, hsa⟩
    exact ⟨bKind k, n, v', _, rfl, ⟨hr.1, hr.2, hn, hv', hlt, fun m hm => hz m (List.mem_of_mem_take hm), fun h => absurd h hk0, fun h => absurd h hk5⟩, s, hsa.of, fun h e => h (by rw [e]; rfl)⟩
def Makes (w : World) (l : List Int) (B : Option Base) (e : Ending) (w' : World) : Prop := ∃ x, e = .returned x ∧ ErrAt w' l B x ∧ Same w w'
theorem make_any {w : World} {K n : Int} {v : Value} {zs : List Int} (h : Descr w K n v zs) (hK : 1 ≤ K) (a : Addr) (hpg : PlainG w a) :
    Calls Tryd.prog 18 #[.agg #[.int .i64 K, .int .i64 n, v]] w (Makes w (atsOf K n zs) (bsOf K n a)) := by
  have hlen : zs.length ≤ 100000 := by have := h.len; omega
  obtain rfl | rfl | rfl | rfl | rfl | rfl | rfl := k_cases hK h.k8
  · exact make_1 w n v zs h.i hlen
  · exact make_2 w n v zs h.i hlen
  · exact make_3 w n v zs h.i hlen
  · exact make_4 w n v zs h.i hlen
  · obtain rfl := h.z5 rfl
    exact make_5 w v zs h.i hlen a hpg
  · exact make_6 w n v zs h.i hlen
  · exact make_7 w n v zs h.i hlen
end Go.Proofs.YtgdjbfcdkibdbaaDoor
