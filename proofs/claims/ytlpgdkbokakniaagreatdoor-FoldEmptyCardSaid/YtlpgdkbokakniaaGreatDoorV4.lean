/- Digits and numbers. -/
import Derived.Test.YtlpgdkbokakniaaGreatDoorV3
import Derived.Test.YtlpgdkbokakniaaGreatDoorXG
import Derived.Test.YtlpgdkbokakniaaGreatDoorShelf
set_option linter.unusedVariables false
set_option linter.unusedSimpArgs false
namespace Go.Proofs.YtlpgdkbokakniaaGreatDoor.X
open Go
def gl : SP := both (glb Tryz.prog "internal/strconv.uint64pow10" (fun cs => cs = (Lib.pow10Tab.map fun z => Value.int .u64 z).toArray)) (both (glb Tryz.prog "strconv.ErrSyntax" (fun cs => ∃ tp p, cs = #[.iface tp p])) (glb Tryz.prog "strconv.ErrRange" (fun cs => ∃ tp p, cs = #[.iface tp p])))
def numS (s : ByteArray) : Int := match Lib.parseIntB 64 s.data.toList with
  | .ok v => if digS v = s then v else 0
  | _ => 0
def dg : Dig := ⟨digS, numS⟩
abbrev digsP (b : Nat) : SP := digsT 185 b
theorem num_in (s : ByteArray) : In64 (dg.num s) := by
  show In64 (numS s)
  unfold numS
  split
  · rename_i v h
    have := Lib.parseIntB_bounds h
    split
    · unfold In64; omega
    · exact in0
  · exact in0
theorem formatInt_ok (n : Int) (hn : In64 n) : Cn Tryz.prog 136 [.int .i64 n, .int .i64 10] [] [gl] (fun v Bs => v = .string (dg.dig n) ∧ Bs = []) := by
  intro w F H
  have htab : Lib.TabIs Tryz.prog w "internal/strconv.uint64pow10" .u64 Lib.pow10Tab := H.factR (List.mem_cons_self ..) fun F h => by
    obtain ⟨⟨g, h1, h2, cs, h3, rfl⟩, _⟩ := h
    exact h3
  refine (Go.Proofs.Tryz.strconv_FormatInt_10 n hn.1 hn.2 w htab).mono ?_
  rintro e w' ⟨rfl, k, os, rfl⟩
  exact ⟨_, rfl, [], ⟨rfl, rfl⟩, H.after (upd_grow w k os)⟩
theorem parse_ok (s : ByteArray) (hs : s.size ≤ 64) (v : Int) (h : Lib.parseIntB 64 s.data.toList = .ok v) : Cn Tryz.prog 131 [.string s, .int .i64 10, .int .i64 64] [] [gl] (fun r Bs => r = .tuple #[.int .i64 v, .nilIface] ∧ Bs = []) := by
  intro w F H
  refine (Go.Proofs.Tryz.strconv_ParseInt_10_at64_ok s (by omega) v h w).mono ?_
  rintro e w' ⟨rfl, hw⟩
  refine ⟨_, rfl, [], ⟨rfl, rfl⟩, ?_⟩
  rcases hw with rfl | ⟨t, rfl⟩
  · exact H
  · exact H.after (upd_below (Lib.bytesWorld_below ..))
theorem parse_err (s : ByteArray) (hs : s.size ≤ 64) (h : ∀ v, Lib.parseIntB 64 s.data.toList ≠ .ok v) : Cn Tryz.prog 131 [.string s, .int .i64 10, .int .i64 64] [] [gl] (fun r Bs => ∃ x te pe, r = .tuple #[.int .i64 x, .iface te pe] ∧ Bs = []) := by
  intro w F H
  obtain ⟨tp, p, hS⟩ : ∃ tp p, w.var? Tryz.prog "strconv.ErrSyntax" = some #[.iface tp p] := H.factR (List.mem_cons_self ..) fun F h => by
    obtain ⟨_, ⟨g, h1, h2, cs, h3, tp, p, rfl⟩, _⟩ := h
    exact ⟨tp, p, h3⟩
  obtain ⟨tq, q, hR⟩ : ∃ tp p, w.var? Tryz.prog "strconv.ErrRange" = some #[.iface tp p] := H.factR (List.mem_cons_self ..) fun F h => by
    obtain ⟨_, _, ⟨g, h1, h2, cs, h3, tp, p, rfl⟩⟩ := h
    exact ⟨tp, p, h3⟩
  cases hh : Lib.parseIntB 64 s.data.toList with
  | ok v => exact absurd hh (h v)
  | «syntax» =>
    refine (Go.Proofs.Tryz.strconv_ParseInt_10_at64_syntax_var s (by omega) hh tp p w hS).mono ?_
    rintro e w' ⟨N, rfl, _, _, hb⟩
    exact ⟨_, rfl, [], ⟨_, _, _, rfl, rfl⟩, H.after (upd_below hb)⟩
  | range =>
    refine (Go.Proofs.Tryz.strconv_ParseInt_10_at64_range_var s (by omega) hh tq q w hR).mono ?_
    rintro e w' ⟨N, rfl, _, _, hb⟩
    exact ⟨_, rfl, [], ⟨_, _, _, rfl, rfl⟩, H.after (upd_below hb)⟩

set_option maxHeartbeats 1000000 in
theorem digits_ok (n : Int) (hn : In64 n) :
    Cn Tryz.prog 129 [.int .i64 n] [] [gl] (fun v Bs => v = .string (dg.dig n) ∧ Bs = []) := by
  intro w0 F0 H
  refine enter (args := [.int .i64 n]) Tryz.func129 rfl rfl (Nat.le_of_ble_eq_true rfl) ?_
  refine c_seq ?_
  refine c_reg ?_
  refine s_val rfl rfl (r_as rfl rfl) ?_
  refine s_nil ?_
  refine q_then ?_
  refine c_env [(0, .int .i64 n), (2, .string ⟨#[]⟩)] ⟨rfl, rfl, trivial⟩ ?_
  refine c_seq ?_
  refine c_reg ?_
  refine s_val rfl rfl (r_mv rfl rfl) ?_
  refine sc (formatInt_ok n (by assumption)) H (lR 0 rfl l0) rfl rfl (e_fn kn136 rfl rfl) ?_
  rintro _ _ w ⟨rfl, rfl⟩ H
  refine s_val rfl rfl (r_as rfl rfl) ?_
  refine s_nil ?_
  refine q_then ?_
  refine c_env [(2, .string (dg.dig n))] ⟨rfl, trivial⟩ ?_
  refine c_ret ?_
  refine q_ret1 rfl rfl ?_
  exact fin ⟨rfl, rfl⟩ H

theorem num_none {s : ByteArray} (h : ∀ v, Lib.parseIntB 64 s.data.toList ≠ .ok v) : dg.num s = 0 := by
  show numS s = 0
  unfold numS
  split
  · rename_i v hh
    exact absurd hh (h v)
  · rfl
set_option maxHeartbeats 1000000 in
theorem number_ok (s : ByteArray) (hs : s.size ≤ 64) :
    Cn Tryz.prog 114 [.string s] [] [gl] (fun v Bs => v = .int .i64 (dg.num s) ∧ Bs = []) := by
  intro w0 F0 H
  refine enter (args := [.string s]) Tryz.func114 rfl rfl (Nat.le_of_ble_eq_true rfl) ?_
  refine c_seq ?_
  refine c_reg ?_
  refine s_val rfl rfl (r_as rfl rfl) ?_
  refine s_nil ?_
  refine q_then ?_
  refine c_env [(0, .string s), (2, .int .i64 0)] ⟨rfl, rfl, trivial⟩ ?_
  refine c_seq ?_
  by_cases hok : ∃ v, Lib.parseIntB 64 s.data.toList = .ok v
  · skip
    refine c_reg ?_
    refine s_val rfl rfl (r_mv rfl rfl) ?_
    obtain ⟨x0, hx0⟩ := hok
    have hxb := Lib.parseIntB_bounds hx0
    have hx64 : In64 x0 := by unfold In64; omega
    refine sc (parse_ok s hs x0 hx0) H (lR 0 rfl l0) rfl rfl (e_fn kn131 rfl rfl) ?_
    rintro _ _ w ⟨rfl, rfl⟩ H
    refine s_val rfl rfl (r_mv rfl rfl) ?_
    refine s_val rfl rfl (r_ex rfl rfl rfl) ?_
    refine s_val rfl rfl (r_ex rfl rfl rfl) ?_
    refine s_val rfl rfl (r_as rfl rfl) ?_
    refine s_val rfl rfl (r_as rfl rfl) ?_
    refine s_nil ?_
    refine q_then ?_
    refine c_env [(0, .string s), (2, .int .i64 0), (3, .int .i64 x0), (4, .nilIface)] ⟨rfl, rfl, rfl, rfl, trivial⟩ ?_
    refine c_seq ?_
    refine c_seq ?_
    refine c_reg ?_
    refine s_val rfl rfl (r_mv rfl rfl) ?_
    refine s_val rfl rfl (r_ine rfl ui168 rfl (.inl ⟨rfl, rfl⟩)) ?_
    refine s_val rfl rfl (r_mv rfl rfl) ?_
    refine s_val rfl rfl (r_mv rfl rfl) ?_
    refine sc (digits_ok x0 (by assumption)) H (lR 0 rfl l0) rfl rfl (e_fn kn129 rfl rfl) ?_
    rintro _ _ w ⟨rfl, rfl⟩ H
    refine s_val rfl rfl (r_mv rfl rfl) ?_
    refine s_val rfl rfl (r_neS rfl rfl rfl) ?_
    refine s_val rfl rfl (r_pickF rfl rfl rfl) ?_
    refine s_nil ?_
    refine q_then ?_
    refine c_env [(2, .int .i64 0), (3, .int .i64 x0), (17, .bool (decide ((dg.dig x0) ≠ s)))] ⟨rfl, rfl, rfl, trivial⟩ ?_
    refine c_dec (p := (dg.dig x0) ≠ s) rfl (fun h1 => ?_) (fun h1 => ?_)
    · skip
      refine c_seq ?_
      refine c_reg ?_
      refine s_val rfl rfl (r_as rfl rfl) ?_
      refine s_nil ?_
      refine q_then ?_
      refine c_env [(2, .int .i64 0), (3, .int .i64 x0)] ⟨rfl, rfl, trivial⟩ ?_
      refine c_ret ?_
      refine q_thenR ?_
      refine q_ret1 rfl rfl ?_
      have e : dg.num s = 0 := by show numS s = _; unfold numS; rw [hx0]; exact if_neg h1
      exact fin ⟨by rw [e], rfl⟩ H
    · skip
      refine c_skip ?_
      refine q_then ?_
      refine c_env [(2, .int .i64 0), (3, .int .i64 x0)] ⟨rfl, rfl, trivial⟩ ?_
      refine c_seq ?_
      refine c_reg ?_
      refine s_val rfl rfl (r_mv rfl rfl) ?_
      refine s_val rfl rfl (r_as rfl rfl) ?_
      refine s_nil ?_
      refine q_then ?_
      refine c_env [(2, .int .i64 x0)] ⟨rfl, trivial⟩ ?_
      refine c_ret ?_
      refine q_ret1 rfl rfl ?_
      have e : dg.num s = x0 := by show numS s = _; unfold numS; rw [hx0]; exact if_pos (Classical.not_not.1 h1)
      exact fin ⟨by rw [e], rfl⟩ H
  · skip
    refine c_reg ?_
    refine s_val rfl rfl (r_mv rfl rfl) ?_
    refine sc (parse_err s hs (fun v h => hok ⟨v, h⟩)) H (lR 0 rfl l0) rfl rfl (e_fn kn131 rfl rfl) ?_
    rintro _ _ w ⟨x0, te, pe, rfl, rfl⟩ H
    refine s_val rfl rfl (r_mv rfl rfl) ?_
    refine s_val rfl rfl (r_ex rfl rfl rfl) ?_
    refine s_val rfl rfl (r_ex rfl rfl rfl) ?_
    refine s_val rfl rfl (r_as rfl rfl) ?_
    refine s_val rfl rfl (r_as rfl rfl) ?_
    refine s_nil ?_
    refine q_then ?_
    refine c_env [(0, .string s), (2, .int .i64 0), (3, .int .i64 x0), (4, .iface te pe)] ⟨rfl, rfl, rfl, rfl, trivial⟩ ?_
    refine c_seq ?_
    refine c_seq ?_
    refine c_reg ?_
    refine s_val rfl rfl (r_mv rfl rfl) ?_
    refine s_val rfl rfl (r_ine rfl ui168 rfl (.inr ⟨_, _, rfl, rfl⟩)) ?_
    refine s_val rfl rfl (r_mv rfl rfl) ?_
    refine s_no rfl rfl ?_
    refine s_no rfl rfl ?_
    refine s_no rfl rfl ?_
    refine s_no rfl rfl ?_
    refine s_val rfl rfl (r_pickT rfl rfl rfl) ?_
    refine s_nil ?_
    refine q_then ?_
    refine c_env [(2, .int .i64 0), (3, .int .i64 x0), (17, .bool true)] ⟨rfl, rfl, rfl, trivial⟩ ?_
    refine c_yes rfl ?_
    refine c_seq ?_
    refine c_reg ?_
    refine s_val rfl rfl (r_as rfl rfl) ?_
    refine s_nil ?_
    refine q_then ?_
    refine c_env [(2, .int .i64 0), (3, .int .i64 x0)] ⟨rfl, rfl, trivial⟩ ?_
    refine c_ret ?_
    refine q_thenR ?_
    refine q_ret1 rfl rfl ?_
    have e : dg.num s = 0 := num_none (fun v h => hok ⟨v, h⟩)
    exact fin ⟨by rw [e], rfl⟩ H

end Go.Proofs.YtlpgdkbokakniaaGreatDoor.X
