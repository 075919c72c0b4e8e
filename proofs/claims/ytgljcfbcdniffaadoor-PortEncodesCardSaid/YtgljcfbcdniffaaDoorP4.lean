/- Contracts of functions of the given program, told by plain Lean functions. No condition. -/
import Derived.Test.YtgljcfbcdniffaaDoorProg
import Derived.Test.YtgljcfbcdniffaaDoorESum
import Derived.KernelRfl
import Derived.Test.YtgljcfbcdniffaaDoorP3
import Derived.Test.YtgljcfbcdniffaaDoorB3
namespace Go.Eng
open Go.Proofs
set_option linter.unusedVariables false
set_option linter.unusedSimpArgs false
set_option maxRecDepth 100000
set_option maxHeartbeats 1000000
def pad16 (nm : List Int) : List Int := [0, 1, 2, 3, 4, 5, 6, 7, 8, 9, 10, 11, 12, 13, 14, 15].map fun j : Nat => if j < nm.length then nm.getD j 0 else 0
theorem bufB_le {x l : List Int} {room e : Int} (h : l.length ≤ 1000000) (hr : room ≤ 1000000) : (bufB x l room e).length ≤ 1000000 := by
  unfold bufB bufOk; split
  · rename_i hb; simp only [Bool.and_eq_true, decide_eq_true_eq] at hb; rw [List.length_append]; omega
  · exact h
theorem rowB_le {w xs l : List Int} {room e : Int} (h : l.length ≤ 1000000) (hr : room ≤ 1000000) : (rowB w xs l room e).length ≤ 1000000 := by
  unfold rowB; split
  · exact bufB_le h hr
  · exact h
def pw1 : List Int := [4, -4, 6, -2]
def pw2 : List Int := [4, 4, 4, 4, 4, 4, 4, 4]
def poOk (no : Int) (nm : List Int) : Bool := !decide (no = 0) && nameF nm
def poB (no hw : Int) (nm xs l : List Int) (room e : Int) : List Int := rowB pw2 xs (bufB (pad16 nm) (rowB pw1 [no, hw] l room e) room (rowE pw1 [no, hw] l room e)) room (bufE (pad16 nm) (rowB pw1 [no, hw] l room e) room (rowE pw1 [no, hw] l room e))
def poE (no hw : Int) (nm xs l : List Int) (room e : Int) : Int := rowE pw2 xs (bufB (pad16 nm) (rowB pw1 [no, hw] l room e) room (rowE pw1 [no, hw] l room e)) room (bufE (pad16 nm) (rowB pw1 [no, hw] l room e) room (rowE pw1 [no, hw] l room e))
def ptB (no hw : Int) (nm xs l : List Int) (room e : Int) : List Int := if poOk no nm = true then poB no hw nm xs l room e else l
def ptE (no hw : Int) (nm xs l : List Int) (room e : Int) : Int := if poOk no nm = true then poE no hw nm xs l room e else failE e 10001
theorem ptB_le {no hw : Int} {nm xs l : List Int} {room e : Int} (h : l.length ≤ 1000000) (hr : room ≤ 1000000) : (ptB no hw nm xs l room e).length ≤ 1000000 := by
  unfold ptB poB; split
  · exact rowB_le (bufB_le (rowB_le h hr) hr) hr
  · exact h
def ir_port_put : IR :=
 (.seq
  (.keep [0, 1]
  (.reg ((⟨(some 3), .boxv (.t 1), none⟩ : IOper) ::
    [])))
  (.seq
   (.seq
    (.keep [0, 3]
    (.reg ((⟨(some 5), .fieldAddr 0 (.t 3), none⟩ : IOper) ::
      (⟨(some 6), .load none (.t 5), none⟩ : IOper) ::
      (⟨(some 7), .bin .eql (.t 6) (.c (.int .u64 0)), none⟩ : IOper) ::
      (⟨(some 8), .mov (.t 7), none⟩ : IOper) ::
      (⟨(some 9), .fieldAddr 2 (.t 3), (some (8, false))⟩ : IOper) ::
      (⟨(some 10), .load none (.t 9), (some (8, false))⟩ : IOper) ::
      (⟨(some 11), .call false (.f 25) [(.t 10)], (some (8, false))⟩ : IOper) ::
      (⟨(some 12), .un .not (.t 11), (some (8, false))⟩ : IOper) ::
      (⟨(some 13), .pick (.t 8) (.c (.kb true)) (.t 12), none⟩ : IOper) ::
      [])))
    (.cond (.t 13)
     (.seq
      (.keep [0]
      (.reg ((⟨(some 14), .mov (.t 0), none⟩ : IOper) ::
        (⟨(some 15), .call false (.f 62) [(.t 14), (.c (.int .i64 10001))], none⟩ : IOper) ::
        [])))
      .ret)
     .skip))
   (.seq
    (.keep [0, 3]
    (.reg ((⟨(some 16), .mov (.t 0), none⟩ : IOper) ::
      (⟨(some 17), .sliceAll (.int .i64) 4 [(0, 1, (.c (.int .i64 4))), (1, 1, (.c (.int .i64 (-4)))), (2, 1, (.c (.int .i64 6))), (3, 1, (.c (.int .i64 (-2))))], none⟩ : IOper) ::
      (⟨(some 18), .fieldAddr 0 (.t 3), none⟩ : IOper) ::
      (⟨(some 19), .load none (.t 18), none⟩ : IOper) ::
      (⟨(some 20), .fieldAddr 1 (.t 3), none⟩ : IOper) ::
      (⟨(some 21), .load none (.t 20), none⟩ : IOper) ::
      (⟨(some 22), .sliceAll (.int .u64) 2 [(0, 1, (.t 19)), (1, 1, (.t 21))], none⟩ : IOper) ::
      (⟨(some 23), .call false (.f 87) [(.t 16), (.t 17), (.t 22)], none⟩ : IOper) ::
      [])))
    (.seq
     (.keep [0, 3]
     (.reg ((⟨(some 4), .box [.int .u8 0, .int .u8 0, .int .u8 0, .int .u8 0, .int .u8 0, .int .u8 0, .int .u8 0, .int .u8 0, .int .u8 0, .int .u8 0, .int .u8 0, .int .u8 0, .int .u8 0, .int .u8 0, .int .u8 0, .int .u8 0], none⟩ : IOper) ::
       [])))
     (.seq
      (.regD (((⟨(some 24), .sarr (.int .u8) 16 (.t 4), none⟩, []) : IOper × List Nat) ::
        ((⟨(some 25), .fieldAddr 2 (.t 3), none⟩, [0]) : IOper × List Nat) ::
        ((⟨(some 26), .load none (.t 25), none⟩, [1]) : IOper × List Nat) ::
        ((⟨(some 27), .copy (.int .u8) (.t 24) (.t 26), none⟩, []) : IOper × List Nat) ::
        []))
      (.seq
       (.reg ((⟨(some 28), .mov (.t 0), none⟩ : IOper) ::
         (⟨(some 29), .sarr (.int .u8) 16 (.t 4), none⟩ : IOper) ::
         (⟨(some 30), .call false (.f 31) [(.t 28), (.t 29)], none⟩ : IOper) ::
         []))
       (.keep [0, 3]
       (.regD (((⟨(some 31), .mov (.t 0), none⟩, []) : IOper × List Nat) ::
         ((⟨(some 32), .call false (.f 94) [], none⟩, [0]) : IOper × List Nat) ::
         ((⟨(some 33), .fieldAddr 3 (.t 3), none⟩, [0, 0]) : IOper × List Nat) ::
         ((⟨(some 34), .sarr (.int .u64) 8 (.t 33), none⟩, [1, 0]) : IOper × List Nat) ::
         ((⟨(some 35), .call false (.f 87) [(.t 31), (.t 32), (.t 34)], none⟩, []) : IOper × List Nat) ::
         [])))))))))
def rd_port_put : List RD := []
theorem ok_port_put : fnOk Tryd.prog Tryd.f59 ir_port_put rd_port_put = true := by kernel_rfl
def W_port_put : List AV → List Obj → Option (Prop × Res)
  | [.ptr 0 0, .agg [.int .u64 no, .int .u64 hw, .str nm, .int .u64 a0, .int .u64 a1, .int .u64 a2, .int .u64 a3, .int .u64 a4, .int .u64 a5, .int .u64 a6, .int .u64 a7]], [.box [.own 1, .int .i64 room, .mapv 2, .int .i64 e], .row false (.int .u8) l, .map sq (.int .i64) (.int .i64) h] => some (0 ≤ room ∧ room ≤ 1000000 ∧ l.length ≤ 1000000, .br (poOk no nm) (.one (.tup []) [.box [.own 3, .int .i64 room, .mapv 2, .int .i64 (poE no hw nm [a0, a1, a2, a3, a4, a5, a6, a7] l room e)], .dead, .map sq (.int .i64) (.int .i64) h, .row false (.int .u8) (poB no hw nm [a0, a1, a2, a3, a4, a5, a6, a7] l room e)]) (.one (.tup []) [.box [.own 1, .int .i64 room, .mapv 2, .int .i64 (failE e 10001)], .row false (.int .u8) l, .map sq (.int .i64) (.int .i64) h]))
  | _, _ => none
def S_port_put : List AV → List Obj → Option (Prop × AV × List Obj)
  | [.ptr 0 0, .agg [.int .u64 no, .int .u64 hw, .str nm, .int .u64 a0, .int .u64 a1, .int .u64 a2, .int .u64 a3, .int .u64 a4, .int .u64 a5, .int .u64 a6, .int .u64 a7]], [.box [.own 1, .int .i64 room, .mapv 2, .int .i64 e], .row false (.int .u8) l, .map sq (.int .i64) (.int .i64) h] => some (0 ≤ room ∧ room ≤ 1000000 ∧ l.length ≤ 1000000, .tup [], [.box [.own 3, .int .i64 room, .mapv 2, .int .i64 (ptE no hw nm [a0, a1, a2, a3, a4, a5, a6, a7] l room e)], .dead, .map sq (.int .i64) (.int .i64) h, .row false (.int .u8) (ptB no hw nm [a0, a1, a2, a3, a4, a5, a6, a7] l room e)])
  | _, _ => none
theorem wnd_port_put : SoundS Tryd.prog 59 (RcF W_port_put).sum := by
  refine rc_fn Tryd.func59 ok_port_put (env_cons (s := RoF S_port_Name) snd_port_Name (env_cons (s := RwF S_buffer_Buffer_Fail) snd_buffer_Buffer_Fail (env_cons (s := RwF S_buffer_Buffer_Row) snd_buffer_Buffer_Row (env_cons (s := RwF S_buffer_Buffer_Bytes) snd_buffer_Buffer_Bytes (env_cons (s := RoF S_port_speeds) snd_port_speeds (env_nil _)))))) fun args objs p v e => ?_
  unfold W_port_put at e
  split at e
  · rename_i no hw nm a0 a1 a2 a3 a4 a5 a6 a7 room e l sq h
    cases e
    change List Int at l
    refine ⟨rfl, fun hw' ho hp => ?_⟩
    clear hw' ho
    obtain ⟨hp1, hp2, hp3⟩ := hp
    have hl1 : (rowB [4, -4, 6, -2] [no, hw] l room e).length ≤ 1000000 := rowB_le hp3 hp2
    have hl2 : (bufB (pad16 nm) (rowB [4, -4, 6, -2] [no, hw] l room e) room (rowE [4, -4, 6, -2] [no, hw] l room e)).length ≤ 1000000 := bufB_le hl1 hp2
    repeat' (intro t ht; first | (cases t <;> first | (cases ht; done) | ((try simp only [Bool.not_eq_eq_eq_not, Bool.not_true, Bool.not_false, Bool.and_eq_true, Bool.and_eq_false_iff, decide_eq_true_eq, decide_eq_false_iff_not] at ht); (try simp only [Int.toNat_natCast, dflt_int] at ht); (try (exfalso; first | contradiction | omega)))) | (refine ht ?_ ?_ <;> clear ht) | (refine ht.1 ?_ ?_ <;> clear ht) | (refine ht ?_; clear ht))
    all_goals first
      | exact True.intro
      | exact ⟨hp1, hp2, hp3⟩
      | exact ⟨hp1, hp2, hl1, (by decide : 16 ≤ 1000000)⟩
      | exact ⟨hp1, hp2, hl2⟩
      | (have hk : poOk no nm = true := by unfold poOk; rw [decide_eq_false (by assumption)]; simp; assumption
         rw [pick_t hk]; exact ⟨rfl, rfl⟩)
      | (have hk : poOk no nm = false := by unfold poOk; simp_all
         rw [pick_f hk]; exact ⟨rfl, rfl⟩)
      | trace_state
  · cases e
theorem snd_port_put : SoundS Tryd.prog 59 (RwF S_port_put).sum := by
  refine rc_move wnd_port_put fun args objs p v o e => ?_
  unfold S_port_put at e
  split at e
  · rename_i no hw nm a0 a1 a2 a3 a4 a5 a6 a7 room e l sq h
    cases e
    cases hb : poOk no nm with
    | true =>
      refine ⟨_, _, rfl, pick_t hb, .inl ?_⟩
      unfold ptE ptB; rw [if_pos hb, if_pos hb]
    | false =>
      refine ⟨_, _, rfl, pick_f hb, .inr ⟨0, 1, [], [.int .i64 room, .mapv 2, .int .i64 (failE e 10001)], .int .u8, l, rfl, rfl, ?_⟩⟩
      unfold ptE ptB; rw [hb]; rfl
  · cases e
def n8 (q : P8) : List Int := [q.1, q.2.1, q.2.2.1, q.2.2.2.1, q.2.2.2.2.1, q.2.2.2.2.2.1, q.2.2.2.2.2.2.1, q.2.2.2.2.2.2.2.1]
def ptsS : List PV → List Int × Int → List Int × Int
  | [], s => s
  | p :: r, s => ptsS r (ptB p.1 p.2.1 p.2.2.1 (n8 p.2.2.2.1) s.1 65472 s.2, ptE p.1 p.2.1 p.2.2.1 (n8 p.2.2.2.1) s.1 65472 s.2)
theorem ptsS_step {l : List PV} {i : Nat} {d : PV} {b : List Int} {e : Int} (h : i < l.length) : ptsS (l.drop i) (b, e) = ptsS (l.drop (i + 1)) (ptB (l.getD i d).1 (l.getD i d).2.1 (l.getD i d).2.2.1 (n8 (l.getD i d).2.2.2.1) b 65472 e, ptE (l.getD i d).1 (l.getD i d).2.1 (l.getD i d).2.2.1 (n8 (l.getD i d).2.2.2.1) b 65472 e) := by
  rw [drop_step h d]; rfl
def encL (l : List PV) : List Int := if (ptsS l ([], 0)).2 = 0 then (ptsS l ([], 0)).1 else []
def encE (l : List PV) : Int := if (ptsS l ([], 0)).2 = 0 then 0 else 10001
def ir_port_Encode : IR :=
 (.seq
  (.keep [0]
  (.reg ((⟨(some 2), .mov (.c (.imm (.int .u8) [])), none⟩ : IOper) ::
    (⟨(some 3), .mov (.c (.int .i64 0)), none⟩ : IOper) ::
    [])))
  (.seq
   (.reg ((⟨(some 9), .call false (.f 30) [(.c (.int .i64 65472))], none⟩ : IOper) ::
     (⟨(some 4), .mov (.t 9), none⟩ : IOper) ::
     []))
   (.seq
    (.seq
     (.reg ((⟨(some 10), .mov (.t 0), none⟩ : IOper) ::
       (⟨(some 11), .len (.t 10), none⟩ : IOper) ::
       (⟨(some 12), .mov (.c (.int .i64 0)), none⟩ : IOper) ::
       []))
     (.block 0
      (.loop
       (.seq
        (.keep [4, 10, 11, 12]
        (.reg ((⟨(some 13), .bin .lss (.t 12) (.t 11), none⟩ : IOper) ::
          [])))
        (.seq
         (.cond (.t 13)
          .skip
          (.exit 0))
         (.seq
          (.block 1
           (.seq
            (.reg ((⟨(some 14), .indexSl 11 (.t 10) (.t 12), none⟩ : IOper) ::
              (⟨(some 15), .load (some 11) (.t 14), none⟩ : IOper) ::
              (⟨(some 6), .box [.int .u64 0, .int .u64 0, .str [], .int .u64 0, .int .u64 0, .int .u64 0, .int .u64 0, .int .u64 0, .int .u64 0, .int .u64 0, .int .u64 0], none⟩ : IOper) ::
              (⟨none, .store 11 (.t 6) (.t 15), none⟩ : IOper) ::
              []))
            (.reg ((⟨(some 16), .mov (.t 4), none⟩ : IOper) ::
              (⟨(some 17), .load (some 11) (.t 6), none⟩ : IOper) ::
              (⟨(some 18), .call false (.f 59) [(.t 16), (.t 17)], none⟩ : IOper) ::
              []))))
          (.keep [4, 10, 11, 12]
          (.reg ((⟨(some 19), .bin .add (.t 12) (.c (.int .i64 1)), none⟩ : IOper) ::
            (⟨(some 12), .mov (.t 19), none⟩ : IOper) ::
            [])))))))))
    (.seq
     (.keep [4]
     (.reg ((⟨(some 21), .mov (.t 4), none⟩ : IOper) ::
       (⟨(some 22), .call false (.f 33) [(.t 21)], none⟩ : IOper) ::
       (⟨(some 20), .mov (.t 22), none⟩ : IOper) ::
       (⟨(some 23), .extract (.t 20) 0, none⟩ : IOper) ::
       (⟨(some 24), .extract (.t 20) 1, none⟩ : IOper) ::
       (⟨(some 7), .mov (.t 23), none⟩ : IOper) ::
       (⟨(some 8), .mov (.t 24), none⟩ : IOper) ::
       [])))
     (.seq
      (.seq
       (.keep [7, 8]
       (.reg ((⟨(some 25), .mov (.t 8), none⟩ : IOper) ::
         (⟨(some 26), .bin .neq (.t 25) (.c (.int .i64 0)), none⟩ : IOper) ::
         [])))
       (.cond (.t 26)
        (.seq
         (.reg ((⟨(some 2), .mov (.c (.imm (.int .u8) [])), none⟩ : IOper) ::
           (⟨(some 3), .mov (.c (.int .i64 10001)), none⟩ : IOper) ::
           []))
         .ret)
        .skip))
      (.seq
       (.reg ((⟨(some 27), .mov (.t 7), none⟩ : IOper) ::
         (⟨(some 2), .mov (.t 27), none⟩ : IOper) ::
         (⟨(some 3), .mov (.c (.int .i64 0)), none⟩ : IOper) ::
         []))
       .ret))))))
def rd_port_Encode : List RD := [.tmp 2 true (some (.int .u8)), .tmp 3 true none]
theorem ok_port_Encode : fnOk Tryd.prog Tryd.f28 ir_port_Encode rd_port_Encode = true := by kernel_rfl
def S_port_Encode : List AV → List Obj → Option (Prop × AV)
  | [.imm (.cons (.int .u64) (.cons (.int .u64) (.cons .str (.cons (.cons (.int .u64) (.cons (.int .u64) (.cons (.int .u64) (.cons (.int .u64) (.cons (.int .u64) (.cons (.int .u64) (.cons (.int .u64) (.cons (.int .u64) .nil)))))))) .nil)))) l], [] => some ((True, .tup [.imm (.int .u8) (encL l), .int .i64 (encE l)]))
  | _, _ => none
theorem snd_port_Encode : SoundS Tryd.prog 28 (RoF S_port_Encode).sum := by
  refine ro_fn Tryd.func28 ok_port_Encode (env_cons (s := RwF S_buffer_New) snd_buffer_New (env_cons (s := RwF S_port_put) snd_port_put (env_cons (s := RwF S_buffer_Buffer_Done) snd_buffer_Buffer_Done (env_nil _)))) fun args objs p v e => ?_
  unfold S_port_Encode at e
  split at e
  · rename_i l
    cases e
    refine ⟨rfl, fun hw ho hp => ?_⟩
    change List PV at l
    have hl : l.length ≤ maxLen := (hw (.imm (.cons (.int .u64) (.cons (.int .u64) (.cons .str (.cons (.cons (.int .u64) (.cons (.int .u64) (.cons (.int .u64) (.cons (.int .u64) (.cons (.int .u64) (.cons (.int .u64) (.cons (.int .u64) (.cons (.int .u64) .nil)))))))) .nil)))) l) (by simp)).2
    unfold maxLen at hl
    clear hw ho
    have hroom : roomF 65472 = 65472 := by decide
    repeat' (intro t ht; first | (cases t <;> first | (cases ht; done) | ((try simp only [Bool.not_eq_eq_eq_not, Bool.not_true, Bool.not_false, Bool.and_eq_true, Bool.and_eq_false_iff, decide_eq_true_eq, decide_eq_false_iff_not] at ht); (try simp only [Int.toNat_natCast, dflt_int] at ht))) | (refine ht ?_ ?_ <;> clear ht) | (refine ht.1 ?_ ?_ <;> clear ht) | (refine ht ?_; clear ht))
    all_goals first
      | exact True.intro
      | (intro r h1 h2; clear h1; refine h2 ⟨[4, 10, 11, 12], Nat × List Int × Int, (fun a => a.1 ≤ l.length ∧ a.2.1.length ≤ 1000000 ∧ ptsS l ([], 0) = ptsS (l.drop a.1) (a.2.1, a.2.2)), fun a => [.ptr 0 0, .imm (.cons (.int .u64) (.cons (.int .u64) (.cons .str (.cons (.cons (.int .u64) (.cons (.int .u64) (.cons (.int .u64) (.cons (.int .u64) (.cons (.int .u64) (.cons (.int .u64) (.cons (.int .u64) (.cons (.int .u64) .nil)))))))) .nil)))) l, .int .i64 l.length, .int .i64 a.1], fun a => [.box [.own 1, .int .i64 65472, .mapv 2, .int .i64 a.2.2], .row false (.int .u8) a.2.1, .map true (.int .i64) (.int .i64) ([])], fun a => l.length - a.1, ⟨(0, [], 0), ⟨Nat.zero_le _, by simp, rfl⟩, rfl, by rw [hroom]; rfl⟩, ?_⟩; clear h2)
      | trace_state
    rintro ⟨i, b, e⟩ ⟨hi, hb, he⟩
    dsimp only at hi hb he
    repeat' (intro t ht; first | (cases t <;> first | (cases ht; done) | ((try simp only [Bool.not_eq_eq_eq_not, Bool.not_true, Bool.not_false, Bool.and_eq_true, Bool.and_eq_false_iff, decide_eq_true_eq, decide_eq_false_iff_not] at ht); (try simp only [Int.toNat_natCast, dflt_int] at ht))) | (refine ht ?_ ?_ <;> clear ht) | (refine ht.1 ?_ ?_ <;> clear ht) | (refine ht ?_; clear ht))
    all_goals (try generalize (Ty.dflt (.cons (.int .u64) (.cons (.int .u64) (.cons .str (.cons (.cons (.int .u64) (.cons (.int .u64) (.cons (.int .u64) (.cons (.int .u64) (.cons (.int .u64) (.cons (.int .u64) (.cons (.int .u64) (.cons (.int .u64) .nil)))))))) .nil))))) = pd at *)
    all_goals first
      | exact True.intro
      | ((try simp only [Int.toNat_natCast, dflt_int, decide_eq_true_eq, decide_eq_false_iff_not, Bool.not_eq_eq_eq_not, Bool.not_true, Bool.not_false, Bool.and_eq_true, Bool.and_eq_false_iff, min_i64, max_i64, min_u64, max_u64, min_u32, max_u32, min_u16, max_u16, min_u8, max_u8] at *); omega)
      | exact ⟨by decide, by decide, hb⟩
      | (simp only [List.length_nil]; (try simp only [Int.toNat_natCast, dflt_int, decide_eq_true_eq, decide_eq_false_iff_not, Bool.not_eq_eq_eq_not, Bool.not_true, Bool.not_false, Bool.and_eq_true, Bool.and_eq_false_iff, min_i64, max_i64, min_u64, max_u64, min_u32, max_u32, min_u16, max_u16, min_u8, max_u8] at *); omega)
      | (have h0 : e = 0 := by unfold doneE at ht; split at ht <;> first | assumption | exact ht
         subst h0
         rw [List.drop_of_length_le (by omega)] at he
         have h1 : ptsS l ([], 0) = (b, 0) := he
         refine ⟨?_, rfl⟩; unfold encL encE doneL doneB; rw [h1]; rfl)
      | (have h0 : ¬ e = 0 := fun h => ht (by rw [h]; rfl)
         rw [List.drop_of_length_le (by omega)] at he
         have h1 : ptsS l ([], 0) = (b, e) := he
         refine ⟨?_, rfl⟩; unfold encL encE; rw [h1, if_neg h0, if_neg h0])
      | (refine ⟨(i + 1, _, _), ⟨?_, ?_, he.trans (ptsS_step (d := pd) (by omega))⟩, ?_, ?_, ?_⟩
         · dsimp only; omega
         · exact ptB_le hb (by decide)
         · dsimp only; omega
         · rfl
         · rfl)
      | trace_state
  · cases e
def ir_port_Right : IR :=
 (.seq
  (.keep [0]
  (.reg ((⟨(some 2), .mov (.c (.kb false)), none⟩ : IOper) ::
    [])))
  (.seq
   (.keep [0]
   (.reg ((⟨(some 6), .mov (.t 0), none⟩ : IOper) ::
     (⟨(some 7), .call false (.f 28) [(.t 6)], none⟩ : IOper) ::
     (⟨(some 5), .mov (.t 7), none⟩ : IOper) ::
     (⟨(some 8), .extract (.t 5) 0, none⟩ : IOper) ::
     (⟨(some 9), .extract (.t 5) 1, none⟩ : IOper) ::
     (⟨(some 3), .mov (.t 8), none⟩ : IOper) ::
     (⟨(some 4), .mov (.t 9), none⟩ : IOper) ::
     [])))
   (.seq
    (.keep [4]
    (.reg ((⟨(some 10), .mov (.t 4), none⟩ : IOper) ::
      (⟨(some 11), .bin .eql (.t 10) (.c (.int .i64 0)), none⟩ : IOper) ::
      (⟨(some 2), .mov (.t 11), none⟩ : IOper) ::
      [])))
    .ret)))
def rd_port_Right : List RD := [.tmp 2 true none]
theorem ok_port_Right : fnOk Tryd.prog Tryd.f34 ir_port_Right rd_port_Right = true := by kernel_rfl
def S_port_Right : List AV → List Obj → Option (Prop × AV)
  | [.imm (.cons (.int .u64) (.cons (.int .u64) (.cons .str (.cons (.cons (.int .u64) (.cons (.int .u64) (.cons (.int .u64) (.cons (.int .u64) (.cons (.int .u64) (.cons (.int .u64) (.cons (.int .u64) (.cons (.int .u64) .nil)))))))) .nil)))) l], [] => some ((True, .bool (decide (encE l = 0))))
  | _, _ => none
theorem snd_port_Right : SoundS Tryd.prog 34 (RoF S_port_Right).sum := by
  refine ro_fn Tryd.func34 ok_port_Right (env_cons (s := RoF S_port_Encode) snd_port_Encode (env_nil _)) fun args objs p v e => ?_
  unfold S_port_Right at e
  split at e
  · rename_i l
    cases e
    refine ⟨rfl, fun hw ho hp => ?_⟩
    repeat' (intro t ht; first | (cases t <;> first | (cases ht; done) | ((try simp only [Bool.not_eq_eq_eq_not, Bool.not_true, Bool.not_false, Bool.and_eq_true, Bool.and_eq_false_iff, decide_eq_true_eq, decide_eq_false_iff_not] at ht); (try simp only [Int.toNat_natCast, dflt_int] at ht); (try (exfalso; first | contradiction | omega)))) | (refine ht ?_ ?_ <;> clear ht) | (refine ht.1 ?_ ?_ <;> clear ht) | (refine ht ?_; clear ht))
    all_goals first
      | exact True.intro
      | exact ⟨rfl, rfl⟩
  · cases e
theorem encL_le (l : List PV) : (encL l).length ≤ 1000000 := by
  have : ∀ (l : List PV) (s : List Int × Int), s.1.length ≤ 1000000 → (ptsS l s).1.length ≤ 1000000 := by
    intro l
    induction l with
    | nil => intro s h; exact h
    | cons p r ih => intro s h; exact ih _ (ptB_le h (by decide))
  unfold encL; split
  · exact this l _ (by simp)
  · simp
def putP (l : List Int) (room e : Int) (x : List PV) : List Int := bufB (encL x) l room (failE e (encE x))
def putPE (l : List Int) (room e : Int) (x : List PV) : Int := bufE (encL x) l room (failE e (encE x))
def ir_port_Put : IR :=
 (.seq
  (.keep [0, 1]
  (.reg ((⟨(some 7), .mov (.t 1), none⟩ : IOper) ::
    (⟨(some 8), .call false (.f 28) [(.t 7)], none⟩ : IOper) ::
    (⟨(some 6), .mov (.t 8), none⟩ : IOper) ::
    (⟨(some 9), .extract (.t 6) 0, none⟩ : IOper) ::
    (⟨(some 10), .extract (.t 6) 1, none⟩ : IOper) ::
    (⟨(some 4), .mov (.t 9), none⟩ : IOper) ::
    (⟨(some 5), .mov (.t 10), none⟩ : IOper) ::
    [])))
  (.seq
   (.keep [0, 4, 5]
   (.reg ((⟨(some 11), .mov (.t 0), none⟩ : IOper) ::
     (⟨(some 12), .mov (.t 5), none⟩ : IOper) ::
     (⟨(some 13), .call false (.f 62) [(.t 11), (.t 12)], none⟩ : IOper) ::
     [])))
   (.reg ((⟨(some 14), .mov (.t 0), none⟩ : IOper) ::
     (⟨(some 15), .mov (.t 4), none⟩ : IOper) ::
     (⟨(some 16), .call false (.f 31) [(.t 14), (.t 15)], none⟩ : IOper) ::
     []))))
def rd_port_Put : List RD := []
theorem ok_port_Put : fnOk Tryd.prog Tryd.f32 ir_port_Put rd_port_Put = true := by kernel_rfl
def S_port_Put : List AV → List Obj → Option (Prop × AV × List Obj)
  | [.ptr 0 0, .imm (.cons (.int .u64) (.cons (.int .u64) (.cons .str (.cons (.cons (.int .u64) (.cons (.int .u64) (.cons (.int .u64) (.cons (.int .u64) (.cons (.int .u64) (.cons (.int .u64) (.cons (.int .u64) (.cons (.int .u64) .nil)))))))) .nil)))) x], [.box [.own 1, .int .i64 room, .mapv 2, .int .i64 e], .row false (.int .u8) l, .map sq (.int .i64) (.int .i64) h] => some ((0 ≤ room ∧ room ≤ 1000000 ∧ l.length ≤ 1000000, .tup [], [.box [.own 3, .int .i64 room, .mapv 2, .int .i64 (putPE l room e x)], .dead, .map sq (.int .i64) (.int .i64) h, .row false (.int .u8) (putP l room e x)]))
  | _, _ => none
theorem snd_port_Put : SoundS Tryd.prog 32 (RwF S_port_Put).sum := by
  refine rw_fn Tryd.func32 ok_port_Put (env_cons (s := RoF S_port_Encode) snd_port_Encode (env_cons (s := RwF S_buffer_Buffer_Fail) snd_buffer_Buffer_Fail (env_cons (s := RwF S_buffer_Buffer_Bytes) snd_buffer_Buffer_Bytes (env_nil _)))) fun args objs p v o e => ?_
  unfold S_port_Put at e
  split at e
  · rename_i x room e l sq h
    cases e
    refine ⟨rfl, fun hw ho hp => ?_⟩
    change List Int at l
    have hx := encL_le x
    clear hw ho
    repeat' (intro t ht; first | (cases t <;> first | (cases ht; done) | ((try simp only [Bool.not_eq_eq_eq_not, Bool.not_true, Bool.not_false, Bool.and_eq_true, Bool.and_eq_false_iff, decide_eq_true_eq, decide_eq_false_iff_not] at ht); (try simp only [Int.toNat_natCast, dflt_int] at ht); (try (exfalso; first | contradiction | omega)))) | (refine ht ?_ ?_ <;> clear ht) | (refine ht.1 ?_ ?_ <;> clear ht) | (refine ht ?_; clear ht))
    all_goals first
      | exact True.intro
      | exact ⟨hp.1, hp.2.1, hp.2.2, hx⟩
      | exact ⟨rfl, rfl⟩
      | trace_state
  · cases e
/-- One port's bytes. -/
def pbF (p : PV) : Option (List Int) := if putK pw1 [p.1, p.2.1] = true ∧ putK pw2 (n8 p.2.2.2.1) = true ∧ poOk p.1 p.2.2.1 = true then some (putB pw1 [p.1, p.2.1] ++ (p.2.2.1 ++ List.replicate (16 - p.2.2.1.length) 0) ++ putB pw2 (n8 p.2.2.2.1)) else none
def pbA : List PV → List Int → Option (List Int)
  | [], o => some o
  | p :: r, o => match pbF p with
    | some x => pbA r (o ++ x)
    | none => none
theorem pbA_some {l : List PV} {i : Nat} {d : PV} {o x : List Int} (h : i < l.length) (hx : pbF (l.getD i d) = some x) : pbA (l.drop i) o = pbA (l.drop (i + 1)) (o ++ x) := by
  rw [drop_step h d]; show (match pbF (l.getD i d) with | some x => _ | none => none) = _; rw [hx]
theorem pbA_none {l : List PV} {i : Nat} {d : PV} {o : List Int} (h : i < l.length) (hx : pbF (l.getD i d) = none) : pbA (l.drop i) o = none := by
  rw [drop_step h d]; show (match pbF (l.getD i d) with | some x => _ | none => none) = _; rw [hx]
def rencL (l : List PV) : List Int := (pbA l []).getD []
def rencE (l : List PV) : Int := match pbA l [] with | some _ => 0 | none => 10001
def ir_r19_Encode : IR :=
 (.seq
  (.keep [0]
  (.reg ((⟨(some 2), .nilrow (.int .u8), none⟩ : IOper) ::
    (⟨(some 3), .mov (.c (.int .i64 0)), none⟩ : IOper) ::
    [])))
  (.seq
   (.reg ((⟨(some 4), .nilrow (.int .u8), none⟩ : IOper) ::
     []))
   (.seq
    (.seq
     (.reg ((⟨(some 5), .mov (.c (.int .i64 0)), none⟩ : IOper) ::
       []))
     (.block 0
      (.loop
       (.seq
        (.seq
         (.keep [0, 4, 5]
         (.reg ((⟨(some 11), .mov (.t 5), none⟩ : IOper) ::
           (⟨(some 12), .mov (.t 0), none⟩ : IOper) ::
           (⟨(some 13), .len (.t 12), none⟩ : IOper) ::
           (⟨(some 14), .bin .lss (.t 11) (.t 13), none⟩ : IOper) ::
           [])))
         (.cond (.t 14)
          .skip
          (.exit 0)))
        (.seq
         (.block 1
          (.seq
           (.keep [0, 4, 5]
           (.regD (((⟨(some 18), .sliceAll (.int .i64) 4 [(0, 1, (.c (.int .i64 4))), (1, 1, (.c (.int .i64 (-4)))), (2, 1, (.c (.int .i64 6))), (3, 1, (.c (.int .i64 (-2))))], none⟩, []) : IOper × List Nat) ::
             ((⟨(some 19), .mov (.t 0), none⟩, [0]) : IOper × List Nat) ::
             ((⟨(some 20), .mov (.t 5), none⟩, [0, 0]) : IOper × List Nat) ::
             ((⟨(some 21), .indexSl 11 (.t 19) (.t 20), none⟩, [2]) : IOper × List Nat) ::
             ((⟨(some 22), .fieldAddr 0 (.t 21), none⟩, [3]) : IOper × List Nat) ::
             ((⟨(some 23), .load none (.t 22), none⟩, [4]) : IOper × List Nat) ::
             ((⟨(some 24), .mov (.t 0), none⟩, [0, 0, 0, 0, 0, 0]) : IOper × List Nat) ::
             ((⟨(some 25), .mov (.t 5), none⟩, [0, 0, 0, 0, 0, 0, 0]) : IOper × List Nat) ::
             ((⟨(some 26), .indexSl 11 (.t 24) (.t 25), none⟩, [2, 0, 0, 0, 0, 0]) : IOper × List Nat) ::
             ((⟨(some 27), .fieldAddr 1 (.t 26), none⟩, [3, 0, 0, 0, 0, 0]) : IOper × List Nat) ::
             ((⟨(some 28), .load none (.t 27), none⟩, [4, 0, 0, 0, 0, 0]) : IOper × List Nat) ::
             ((⟨(some 29), .sliceAll (.int .u64) 2 [(0, 1, (.t 23)), (1, 1, (.t 28))], none⟩, [10]) : IOper × List Nat) ::
             ((⟨(some 30), .call false (.f 60) [(.t 18), (.t 29)], none⟩, []) : IOper × List Nat) ::
             ((⟨(some 17), .mov (.t 30), none⟩, []) : IOper × List Nat) ::
             ((⟨(some 31), .extract (.t 17) 0, none⟩, []) : IOper × List Nat) ::
             ((⟨(some 32), .extract (.t 17) 1, none⟩, [0]) : IOper × List Nat) ::
             ((⟨(some 6), .mov (.t 31), none⟩, [0]) : IOper × List Nat) ::
             ((⟨(some 7), .mov (.t 32), none⟩, []) : IOper × List Nat) ::
             [])))
           (.seq
            (.keep [0, 4, 5, 6, 7]
            (.reg ((⟨(some 34), .sliceAll (.int .i64) 8 [(0, 1, (.c (.int .i64 4))), (1, 1, (.c (.int .i64 4))), (2, 1, (.c (.int .i64 4))), (3, 1, (.c (.int .i64 4))), (4, 1, (.c (.int .i64 4))), (5, 1, (.c (.int .i64 4))), (6, 1, (.c (.int .i64 4))), (7, 1, (.c (.int .i64 4)))], none⟩ : IOper) ::
              (⟨(some 35), .mov (.t 0), none⟩ : IOper) ::
              (⟨(some 36), .mov (.t 5), none⟩ : IOper) ::
              (⟨(some 37), .indexSl 11 (.t 35) (.t 36), none⟩ : IOper) ::
              (⟨(some 38), .fieldAddr 3 (.t 37), none⟩ : IOper) ::
              (⟨(some 39), .sarr (.int .u64) 8 (.t 38), none⟩ : IOper) ::
              (⟨(some 40), .call false (.f 60) [(.t 34), (.t 39)], none⟩ : IOper) ::
              (⟨(some 33), .mov (.t 40), none⟩ : IOper) ::
              (⟨(some 41), .extract (.t 33) 0, none⟩ : IOper) ::
              (⟨(some 42), .extract (.t 33) 1, none⟩ : IOper) ::
              (⟨(some 8), .mov (.t 41), none⟩ : IOper) ::
              (⟨(some 9), .mov (.t 42), none⟩ : IOper) ::
              [])))
            (.seq
             (.seq
              (.keep [0, 4, 5, 6, 7, 8, 9]
              (.reg ((⟨(some 43), .mov (.t 7), none⟩ : IOper) ::
                (⟨(some 44), .un .not (.t 43), none⟩ : IOper) ::
                (⟨(some 45), .mov (.t 44), none⟩ : IOper) ::
                (⟨(some 46), .mov (.t 9), (some (45, false))⟩ : IOper) ::
                (⟨(some 47), .un .not (.t 46), (some (45, false))⟩ : IOper) ::
                (⟨(some 48), .pick (.t 45) (.c (.kb true)) (.t 47), none⟩ : IOper) ::
                (⟨(some 49), .mov (.t 48), none⟩ : IOper) ::
                (⟨(some 50), .mov (.t 0), (some (49, false))⟩ : IOper) ::
                (⟨(some 51), .mov (.t 5), (some (49, false))⟩ : IOper) ::
                (⟨(some 52), .indexSl 11 (.t 50) (.t 51), (some (49, false))⟩ : IOper) ::
                (⟨(some 53), .fieldAddr 0 (.t 52), (some (49, false))⟩ : IOper) ::
                (⟨(some 54), .load none (.t 53), (some (49, false))⟩ : IOper) ::
                (⟨(some 55), .bin .eql (.t 54) (.c (.int .u64 0)), (some (49, false))⟩ : IOper) ::
                (⟨(some 56), .pick (.t 49) (.c (.kb true)) (.t 55), none⟩ : IOper) ::
                (⟨(some 57), .mov (.t 56), none⟩ : IOper) ::
                (⟨(some 58), .mov (.t 0), (some (57, false))⟩ : IOper) ::
                (⟨(some 59), .mov (.t 5), (some (57, false))⟩ : IOper) ::
                (⟨(some 60), .indexSl 11 (.t 58) (.t 59), (some (57, false))⟩ : IOper) ::
                (⟨(some 61), .fieldAddr 2 (.t 60), (some (57, false))⟩ : IOper) ::
                (⟨(some 62), .load none (.t 61), (some (57, false))⟩ : IOper) ::
                (⟨(some 63), .call false (.f 26) [(.t 62)], (some (57, false))⟩ : IOper) ::
                (⟨(some 64), .un .not (.t 63), (some (57, false))⟩ : IOper) ::
                (⟨(some 65), .pick (.t 57) (.c (.kb true)) (.t 64), none⟩ : IOper) ::
                [])))
              (.cond (.t 65)
               (.seq
                (.keep []
                (.reg ((⟨(some 2), .nilrow (.int .u8), none⟩ : IOper) ::
                  (⟨(some 3), .mov (.c (.int .i64 10001)), none⟩ : IOper) ::
                  [])))
                .ret)
               .skip))
             (.seq
              (.keep [0, 4, 5, 6, 8]
              (.regD (((⟨(some 66), .mov (.t 0), none⟩, []) : IOper × List Nat) ::
                ((⟨(some 67), .mov (.t 5), none⟩, [0]) : IOper × List Nat) ::
                ((⟨(some 68), .indexSl 11 (.t 66) (.t 67), none⟩, []) : IOper × List Nat) ::
                ((⟨(some 69), .fieldAddr 2 (.t 68), none⟩, []) : IOper × List Nat) ::
                ((⟨(some 70), .load none (.t 69), none⟩, []) : IOper × List Nat) ::
                ((⟨(some 71), .s2b (.t 70), none⟩, []) : IOper × List Nat) ::
                ((⟨(some 72), .mov (.t 0), none⟩, [0, 0, 0, 0, 0, 0]) : IOper × List Nat) ::
                ((⟨(some 73), .mov (.t 5), none⟩, [0, 0, 0, 0, 0, 0, 0]) : IOper × List Nat) ::
                ((⟨(some 74), .indexSl 11 (.t 72) (.t 73), none⟩, [2, 0, 0, 0, 0, 0]) : IOper × List Nat) ::
                ((⟨(some 75), .fieldAddr 2 (.t 74), none⟩, [3, 0, 0, 0, 0, 0]) : IOper × List Nat) ::
                ((⟨(some 76), .load none (.t 75), none⟩, [4, 0, 0, 0, 0, 0]) : IOper × List Nat) ::
                ((⟨(some 77), .slen (.t 76), none⟩, [5, 0, 0, 0, 0, 0]) : IOper × List Nat) ::
                ((⟨(some 78), .bin .sub (.c (.int .i64 16)) (.t 77), none⟩, [6, 0, 0, 0, 0, 0]) : IOper × List Nat) ::
                ((⟨(some 79), .appendz (.int .u8) 1 (0 : Int) (.t 71) (.t 78), none⟩, []) : IOper × List Nat) ::
                ((⟨(some 10), .mov (.t 79), none⟩, []) : IOper × List Nat) ::
                [])))
              (.keep [0, 4, 5, 6, 8, 10]
              (.reg ((⟨(some 80), .mov (.t 4), none⟩ : IOper) ::
                (⟨(some 81), .mov (.t 6), none⟩ : IOper) ::
                (⟨(some 82), .append (.int .u8) 1 (.t 80) (.t 81), none⟩ : IOper) ::
                (⟨(some 83), .mov (.t 10), none⟩ : IOper) ::
                (⟨(some 84), .append (.int .u8) 1 (.t 82) (.t 83), none⟩ : IOper) ::
                (⟨(some 85), .mov (.t 8), none⟩ : IOper) ::
                (⟨(some 86), .append (.int .u8) 1 (.t 84) (.t 85), none⟩ : IOper) ::
                (⟨(some 4), .mov (.t 86), none⟩ : IOper) ::
                []))))))))
         (.keep [0, 4, 5]
         (.reg ((⟨(some 15), .mov (.t 5), none⟩ : IOper) ::
           (⟨(some 16), .bin .add (.t 15) (.c (.int .i64 1)), none⟩ : IOper) ::
           (⟨(some 5), .mov (.t 16), none⟩ : IOper) ::
           []))))))))
    (.seq
     (.seq
      (.keep [0, 4]
      (.reg ((⟨(some 87), .mov (.t 0), none⟩ : IOper) ::
        (⟨(some 88), .len (.t 87), none⟩ : IOper) ::
        (⟨(some 89), .bin .gtr (.t 88) (.c (.int .i64 1023)), none⟩ : IOper) ::
        [])))
      (.cond (.t 89)
       (.seq
        (.reg ((⟨(some 2), .nilrow (.int .u8), none⟩ : IOper) ::
          (⟨(some 3), .mov (.c (.int .i64 10001)), none⟩ : IOper) ::
          []))
        .ret)
       .skip))
     (.seq
      (.reg ((⟨(some 90), .mov (.t 4), none⟩ : IOper) ::
        (⟨(some 2), .mov (.t 90), none⟩ : IOper) ::
        (⟨(some 3), .mov (.c (.int .i64 0)), none⟩ : IOper) ::
        []))
      .ret)))))
def rd_r19_Encode : List RD := [.tmp 2 true (some (.int .u8)), .tmp 3 true none]
theorem ok_r19_Encode : fnOk Tryd.prog Tryd.f29 ir_r19_Encode rd_r19_Encode = true := by kernel_rfl
def S_r19_Encode : List AV → List Obj → Option (Prop × AV)
  | [.imm (.cons (.int .u64) (.cons (.int .u64) (.cons .str (.cons (.cons (.int .u64) (.cons (.int .u64) (.cons (.int .u64) (.cons (.int .u64) (.cons (.int .u64) (.cons (.int .u64) (.cons (.int .u64) (.cons (.int .u64) .nil)))))))) .nil)))) l], [] => some ((l.length ≤ 1000, .tup [.imm (.int .u8) (rencL l), .int .i64 (rencE l)]))
  | _, _ => none
theorem snd_r19_Encode : SoundS Tryd.prog 29 (RoF S_r19_Encode).sum := by
  refine ro_fn Tryd.func29 ok_r19_Encode (env_cons (s := RoF S_r01_Put) snd_r01_Put (env_cons (s := RoF S_r19_Name) snd_r19_Name (env_nil _))) fun args objs p v e => ?_
  unfold S_r19_Encode at e
  split at e
  · rename_i l
    cases e
    refine ⟨rfl, fun hw ho hp => ?_⟩
    change List PV at l
    clear hw ho
    repeat' (intro t ht; first | (cases t <;> first | (cases ht; done) | ((try simp only [Bool.not_eq_eq_eq_not, Bool.not_true, Bool.not_false, Bool.and_eq_true, Bool.and_eq_false_iff, decide_eq_true_eq, decide_eq_false_iff_not] at ht); (try simp only [Int.toNat_natCast, dflt_int] at ht))) | (refine ht ?_ ?_ <;> clear ht) | (refine ht.1 ?_ ?_ <;> clear ht) | (refine ht ?_; clear ht))
    all_goals first
      | exact True.intro
      | (intro r h1 h2; clear h1; refine h2 ⟨[0, 4, 5], Nat × List Int, (fun a => a.1 ≤ l.length ∧ a.2.length ≤ a.1 * 10000 ∧ pbA l [] = pbA (l.drop a.1) a.2), fun a => [.imm (.cons (.int .u64) (.cons (.int .u64) (.cons .str (.cons (.cons (.int .u64) (.cons (.int .u64) (.cons (.int .u64) (.cons (.int .u64) (.cons (.int .u64) (.cons (.int .u64) (.cons (.int .u64) (.cons (.int .u64) .nil)))))))) .nil)))) l, .own 0, .int .i64 a.1], fun a => [.row false (.int .u8) a.2], fun a => l.length - a.1, ⟨(0, []), ⟨Nat.zero_le _, by simp, rfl⟩, rfl, rfl⟩, ?_⟩; clear h2)
      | trace_state
    rintro ⟨i, o⟩ ⟨hi, ho, he⟩
    dsimp only at hi ho he
    repeat' (intro t ht; first | (cases t <;> first | (cases ht; done) | ((try simp only [Bool.not_eq_eq_eq_not, Bool.not_true, Bool.not_false, Bool.and_eq_true, Bool.and_eq_false_iff, decide_eq_true_eq, decide_eq_false_iff_not] at ht); (try simp only [Int.toNat_natCast, dflt_int] at ht); (try (exfalso; first | contradiction | omega)))) | (refine ht ?_ ?_ <;> clear ht) | (refine ht.1 ?_ ?_ <;> clear ht) | (refine ht ?_; clear ht))
    all_goals (try generalize (Ty.dflt (.cons (.int .u64) (.cons (.int .u64) (.cons .str (.cons (.cons (.int .u64) (.cons (.int .u64) (.cons (.int .u64) (.cons (.int .u64) (.cons (.int .u64) (.cons (.int .u64) (.cons (.int .u64) (.cons (.int .u64) .nil)))))))) .nil))))) = pd at *)
    all_goals (try dsimp only)
    all_goals (try simp only [cast_rfl, Int.toNat_natCast, List.length_append, List.length_replicate])
    all_goals first
      | exact True.intro
      | ((try simp only [Int.toNat_natCast, dflt_int, decide_eq_true_eq, decide_eq_false_iff_not, Bool.not_eq_eq_eq_not, Bool.not_true, Bool.not_false, Bool.and_eq_true, Bool.and_eq_false_iff, min_i64, max_i64, min_u64, max_u64, min_u32, max_u32, min_u16, max_u16, min_u8, max_u8] at *); omega)
      | (rw [List.drop_of_length_le (by omega)] at he
         refine ⟨?_, by first | rfl | exact True.intro⟩; unfold rencL rencE; rw [he]; rfl)
      | (have hx : pbF (l.getD i pd) = none := by
           unfold pbF
           refine if_neg fun h => ?_
           have h3 := h.2.2
           unfold poOk at h3
           simp only [Bool.and_eq_true, Bool.not_eq_true', decide_eq_false_iff_not] at h3
           first
             | exact absurd (by assumption) h3.1
             | exact absurd (h.1.symm.trans (by assumption)) (by decide)
             | exact absurd (h.2.1.symm.trans (by assumption)) (by decide)
             | exact absurd (h3.2.symm.trans (by assumption)) (by decide)
         have h0 := pbA_none (o := o) (show i < l.length by omega) hx
         refine ⟨?_, by first | rfl | exact True.intro⟩; unfold rencL rencE; rw [he, h0]; rfl)
      | (have hn : nameF (l.getD i pd).2.2.1 = true := by assumption
         have hn2 := (nameF_t.1 hn).1
         have hb1 := putB_len [4, -4, 6, -2] [(l.getD i pd).1, (l.getD i pd).2.1]
         have hb2 := putB_len pw2 (n8 (l.getD i pd).2.2.2.1)
         unfold pw2 n8 at hb2
         first
           | omega
           | ((try simp only [Int.toNat_natCast, dflt_int, decide_eq_true_eq, decide_eq_false_iff_not, Bool.not_eq_eq_eq_not, Bool.not_true, Bool.not_false, Bool.and_eq_true, Bool.and_eq_false_iff, min_i64, max_i64, min_u64, max_u64, min_u32, max_u32, min_u16, max_u16, min_u8, max_u8] at *); omega)
           | (have hx : pbF (l.getD i pd) = some (putB pw1 [(l.getD i pd).1, (l.getD i pd).2.1] ++ ((l.getD i pd).2.2.1 ++ List.replicate (16 - (l.getD i pd).2.2.1.length) 0) ++ putB pw2 (n8 (l.getD i pd).2.2.2.1)) := by
                unfold pbF
                exact if_pos ⟨by assumption, by assumption, by unfold poOk; rw [hn, decide_eq_false (by assumption)]; rfl⟩
              have e16 : (16 - ((l.getD i pd).2.2.1.length : Int)).toNat = 16 - (l.getD i pd).2.2.1.length := by omega
              refine ⟨(i + 1, _), ⟨?_, ?_, he.trans (pbA_some (by omega) hx)⟩, ?_, ?_, ?_⟩
              · dsimp only; omega
              · dsimp only; simp only [List.length_append, List.length_replicate]; unfold pw2 n8 pw1; omega
              · dsimp only; omega
              · rfl
              · rw [e16]; simp only [List.append_assoc]; rfl))
      | trace_state
  · cases e
end Go.Eng
