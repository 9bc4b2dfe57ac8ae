/- What the machine answers, the model answers. -/
import Derived.Test.YtomnbknaanlmaaaGreatDoorZ05
import Derived.LoopN
import Derived.Defers
namespace Go.Proofs.YtomnbknaanlmaaaGreatDoor
open Go.RowKit
section
variable {P : Program} {Y : ZMap} {w0 : WB} {nt : Nat}
def exitOf : Nat → Exit
  | 0 => .normal
  | 1 => .ret
  | n + 2 => .exit n
variable (w0 Y nt) in
def Fin (D : List Deferred) (G : Nat → Option Value) (Z : ZMap) (r : Nat × St) (Q : Exit → Act → World → Prop) : Prop := ∀ a' w' Z' m', ZUp w0 Z Z' → (∀ i, m' i ≠ none → i < r.2.nx) → FrS D G w0 Z' Y m' nt r.2 a' w' → Q (exitOf r.1) a' w'
variable (P w0 Y nt) in
def CodeOk (c : Code) (s : St) (r : Nat × St) : Prop := ∀ (D : List Deferred) (G : Nat → Option Value) Z m a w, FrS D G w0 Z Y m nt s a w → (∀ i, m i ≠ none → i < s.nx) → ∀ Q, Fin Y w0 nt D G Z r Q → c.wp P Q a w
variable (P w0 Y nt) in
def LoopOk (n : Nat) (b : Code) (s : St) (r : Nat × St) : Prop := ∀ (D : List Deferred) (G : Nat → Option Value) Z m a w, FrS D G w0 Z Y m nt s a w → (∀ i, m i ≠ none → i < s.nx) → ∀ Q, Fin Y w0 nt D G Z r Q → Code.rounds P b Q n a w
/-- all rows are shared -/
theorem Rel.shareN {Z Y : ZMap} {m : Nat → Option Value} {w0 : WB} {w : World} {h : Nat → Option B} {sh : Nat → Bool} (R : Rel w0 Z Y m h sh w) : ∀ n : Nat, ∃ Z', ZUp w0 Z Z' ∧ Rel w0 Z' Y m h (fun i => bif Nat.blt i n then true else sh i) w ∧ ∀ i es, i < n → h i = some (.row es) → ∀ v q, Rep Z Y m v (.row i q) → RepC Z' v (.sl es)
  | 0 => ⟨Z, ZUp.refl, R, fun i es hi => by omega⟩
  | n + 1 => by
    obtain ⟨Z1, u1, R1, r1⟩ := R.shareN n
    have hf : (fun i => if i = n then true else bif Nat.blt i n then true else sh i) = fun i => bif Nat.blt i (n + 1) then true else sh i := by
      funext i
      rcases (by omega : i = n ∨ i < n ∨ n < i) with e | e | e
      · rw [if_pos e, show Nat.blt i (n + 1) = true from Nat.ble_eq_true_of_le (by omega)]; rfl
      · rw [if_neg (by omega), show Nat.blt i n = true from Nat.ble_eq_true_of_le (by omega), show Nat.blt i (n + 1) = true from Nat.ble_eq_true_of_le (by omega)]
      · rw [if_neg (by omega), show Nat.blt i n = false from by rw [← Bool.not_eq_true]; intro hh; have := Nat.le_of_ble_eq_true hh; omega, show Nat.blt i (n + 1) = false from by rw [← Bool.not_eq_true]; intro hh; have := Nat.le_of_ble_eq_true hh; omega]
    have hno : (∀ es, h n ≠ some (.row es)) → ∃ Z', ZUp w0 Z Z' ∧ Rel w0 Z' Y m h (fun i => bif Nat.blt i (n + 1) then true else sh i) w ∧ ∀ i es, i < n + 1 → h i = some (.row es) → ∀ v q, Rep Z Y m v (.row i q) → RepC Z' v (.sl es) := fun hn => by
      refine ⟨Z1, u1, ⟨R1.bel, R1.gw, R1.zok, R1.yok, R1.box, fun id es hi => ?_, R1.tab, R1.mp, R1.inj⟩, fun i es hi hr => ?_⟩
      · have hne : id ≠ n := fun e => hn es (by rw [← e]; exact hi)
        have := R1.row id es hi
        have e2 : (if id = n then true else bif Nat.blt id n then true else sh id) = bif Nat.blt id (n + 1) then true else sh id := congrFun hf id
        rw [← e2, if_neg hne]
        exact this
      · have hne : i ≠ n := fun e => hn es (by rw [← e]; exact hr)
        exact r1 i es (by omega) hr
    cases hn : h n with
    | none => exact hno fun es he => by rw [hn] at he; cases he
    | some b =>
      cases b with
      | row es =>
        obtain ⟨Z2, a1, a2, a3, a4⟩ := R1.share hn
        rw [hf] at a3
        refine ⟨Z2, u1.trans ⟨a1, a2⟩, a3, fun i es' hi hr v q r => ?_⟩
        by_cases e : i = n
        · subst e
          rw [hn] at hr
          injection hr with hr; injection hr with hr
          subst hr
          exact a4 v q (r.mono u1.le (MLe.refl _))
        · exact (r1 i es' (by omega) hr v q r).mono a1
      | _ => exact hno fun es he => by rw [hn] at he; injection he with he; cases he
theorem share_sim {Z Y : ZMap} {m : Nat → Option Value} {w0 : WB} {w : World} {D : List Deferred} {G : Nat → Option Value} {nt : Nat} {s : St} {a : Act} (q : Bool) (F : FrS D G w0 Z Y m nt s a w) (hu : ∀ i, m i ≠ none → i < s.nx) :
    ∃ Z', ZUp w0 Z Z' ∧ FrS D G w0 Z' Y m nt (shareS q s) a w ∧ ∀ i, m i ≠ none → i < (shareS q s).nx := by
  cases q with
  | false => exact ⟨Z, ZUp.refl, F, hu⟩
  | true =>
    obtain ⟨Z1, u1, R1, r1⟩ := F.rel.shareN s.nx
    have key0 : ∀ (u : Value) (y : V), Rep Z Y m u y → Rep Z1 Y m u (shareC s.h y) := fun u y hry => by
      have hup := hry.mono u1.le (MLe.refl m)
      have key : ∀ (id2 n2 : Nat), y = .row id2 n2 → Rep Z1 Y m u (shareC s.h y) := fun id2 n2 e => by
        subst e
        show Rep Z1 Y m u (match s.h id2 with | some (.row es) => .c (.sl es) | _ => .row id2 n2)
        cases hb : s.h id2 with
        | none => exact hup
        | some bb =>
          cases bb with
          | row es =>
            refine .c (r1 id2 es (hu id2 ?_) hb u n2 hry)
            cases hry with
            | row _ _ A c hm2 hA => rw [hm2]; simp
            | row0 _ A hm2 => rw [hm2]; simp
          | _ => exact hup
      cases y with
      | row id2 n2 => exact key id2 n2 rfl
      | c z =>
        cases z with
        | nilS =>
          cases hry with | c r =>
          cases r
          exact .c (repC_empty Z1 (by simp) (fun _ => rfl))
        | ne =>
          cases hry with | c r =>
          cases r
          exact .c (repC_empty Z1 (by assumption) (fun h => by cases h))
        | zs =>
          cases hry with | c r =>
          cases r
          exact .c (repC_empty Z1 (by simp) (fun _ => rfl))
        | _ => exact hup
      | _ => exact hup
    refine ⟨Z1, u1, ⟨⟨F.fr.size, fun i => key0 _ _ (F.fr.rep i)⟩, ?_, F.og, F.df⟩, hu⟩
    have hrow : ∀ id es, shareB s.h (s.h id) = some (.row es) → s.h id = some (.row es) := fun id es hh => by
      cases hb : s.h id with
      | none => rw [hb] at hh; cases hh
      | some b => rw [hb] at hh; cases b <;> first | exact hh | cases hh
    have htab : ∀ id es i v, shareB s.h (s.h id) = some (.tab es i v) → s.h id = some (.tab es i v) := fun id es i v hh => by
      cases hb : s.h id with
      | none => rw [hb] at hh; cases hh
      | some b => rw [hb] at hh; cases b <;> first | exact hh | cases hh
    have hmp : ∀ id l, shareB s.h (s.h id) = some (.mp l) → s.h id = some (.mp l) := fun id l hh => by
      cases hb : s.h id with
      | none => rw [hb] at hh; cases hh
      | some b => rw [hb] at hh; cases b <;> first | exact hh | cases hh
    have hne : ∀ id, shareB s.h (s.h id) ≠ none → s.h id ≠ none := fun id hh e => hh (by rw [e]; rfl)
    have hbox : ∀ id cs, shareB s.h (s.h id) = some (.box cs) → ∃ ds, s.h id = some (.box ds) ∧ cs = ds.map (shareC s.h) := fun id cs hh => by
      cases hb : s.h id with
      | none => rw [hb] at hh; cases hh
      | some b =>
        rw [hb] at hh
        cases b with
        | box ds => injection hh with hh; injection hh with hh; exact ⟨ds, rfl, hh.symm⟩
        | _ => injection hh with hh; cases hh
    refine ⟨R1.bel, R1.gw, R1.zok, R1.yok, fun id cs hi => ?_, fun id es hi => R1.row id es (hrow id es hi), fun id es i v hi => R1.tab id es i v (htab id es i v hi), fun id l hi => R1.mp id l (hmp id l hi), fun id id' g h1 h2 => R1.inj id id' g (hne id h1) (hne id' h2)⟩
    obtain ⟨ds, hd, rfl⟩ := hbox id cs hi
    obtain ⟨g, hm, hat⟩ := R1.box id ds hd
    obtain ⟨g0, hm0, hat0⟩ := F.rel.box id ds hd
    rw [hm] at hm0
    injection hm0 with hm0; injection hm0 with hm0; injection hm0 with hm0; injection hm0 with hm0
    subst hm0
    obtain ⟨t, vs, hv, hrep⟩ := hat0.ex
    refine ⟨g, hm, ⟨hat.base, ⟨t, vs, hv, ?_⟩, hat.apart⟩⟩
    cases hrep with
    | agg _ _ hl h1 hr =>
      refine .agg vs _ (by simpa using hl) h1 fun i u x hu' hx => ?_
      rw [List.getElem?_map] at hx
      cases hy : ds[i]? with
      | none => rw [hy] at hx; cases hx
      | some y =>
        rw [hy] at hx
        injection hx with hx; subst hx
        exact key0 u y (hr i u y hu' hy)
theorem stepC_sim (hmo : P.follows .mixedOrders = true) {live : Nat → List Nat} {call : CT} (hcall : ∀ g args res, call.call g args = some res → CallOk P g args res) (hch : ∀ f g args s0 v s1, call.ch f = some g → g args s0 = some (v, s1) → HeapOk P f args s0 v s1) {again : Code → St → Option (Nat × St)} {n : Nat} (hag : ∀ b s r, again (.loop b) s = some r → LoopOk P Y w0 nt n b s r) :
    ∀ (c : Code) (s : St) (r : Nat × St), stepC P live call nt again c s = some r → CodeOk P Y w0 nt c s r ∧ ∀ b, c = .loop b → LoopOk P Y w0 nt (n + 1) b s r := by
  intro c
  induction c with
  | skip =>
    intro s r h
    injection h with h; subst h
    exact ⟨fun D G Z m a w F hu Q hQ => wp_skip (hQ a w Z m ZUp.refl hu F), fun b hb => by cases hb⟩
  | region id ops draw =>
    intro s r h
    refine ⟨fun D G Z m a w F hu Q hQ => ?_, fun b hb => by cases hb⟩
    cases draw with
    | false =>
      simp only [stepC] at h
      cases hr : runN P call.call call.ch (fun j => live (3000000 + 1000 * id + j)) nt ops ops.toList 0 s.nx s with
      | none => rw [hr] at h; cases h
      | some s' =>
        rw [hr] at h
        injection h with h; subst h
        refine wp_region_list (runN_sim hcall hch ops.toList F hu hr (fun a' w' Z' m' u1 u3 F' => ?_))
        obtain ⟨m2, F3, u4⟩ := canon_sim (live (2 * id + 1)) F' u3
        exact hQ a' w' Z' m2 u1 u4 F3
    | true =>
      simp only [stepC] at h
      split at h
      · rename_i hd
        cases hr : runD P ⟨call.call, ioR live id call.io, call.ch, lvD (ioR live id call.io) (fun j => live (3000000 + 1000 * id + j)) ops s.nx, s.nx + 8 * ops.size⟩ nt ops (anOf ops) s.nx (List.range ops.size) { s with lr := fun _ => [], lw := fun _ => [] } with
        | none => rw [hr] at h; cases h
        | some s' =>
          rw [hr] at h
          injection h with h; subst h
          refine draw_sim hmo hcall hch F hu hd hr (fun a' w' Z' m' u1 _ u3 F' => ?_)
          have F2 : FrS D G w0 Z' Y m' nt { s' with nx := s.nx + 8 * ops.size } a' w' := ⟨F'.fr, F'.rel, F'.og, F'.df⟩
          obtain ⟨m2, F3, u4⟩ := canon_sim (live (2 * id + 1)) F2 u3
          exact hQ a' w' Z' m2 u1 u4 F3
      · cases h
  | seq x y ihx ihy =>
    intro s r h
    refine ⟨fun D G Z m a w F hu Q hQ => ?_, fun b hb => by cases hb⟩
    simp only [stepC] at h
    cases hx : stepC P live call nt again x s with
    | none => rw [hx] at h; cases h
    | some r1 =>
      rw [hx] at h
      simp only [Option.bind_some] at h
      refine wp_seq ((ihx s r1 hx).1 D G Z m a w F hu _ (fun a' w' Z' m' u1 u2 F' => ?_))
      split at h
      · rename_i h0
        rw [h0]
        obtain ⟨m1, F1, hu1⟩ : ∃ m1, FrS D G w0 Z' Y m1 nt (cutS live y r1.2) a' w' ∧ ∀ i, m1 i ≠ none → i < (cutS live y r1.2).nx := by
          unfold cutS
          split
          · exact ⟨m', F', u2⟩
          · exact canon_sim _ F' u2
        exact (ihy _ r h).1 D G Z' m1 a' w' F1 hu1 Q (fun a'' w'' Z'' m'' v1 v2 F'' => hQ a'' w'' Z'' m'' (u1.trans v1) v2 F'')
      · rename_i h0
        injection h with h; subst h
        have := hQ a' w' Z' m' u1 u2 F'
        obtain ⟨k, st⟩ := r1
        rcases k with _ | _ | k
        · exact absurd rfl h0
        · exact this
        · exact this
  | cond c x y ihx ihy =>
    intro s r h
    refine ⟨fun D G Z m a w F hu Q hQ => ?_, fun b hb => by cases hb⟩
    simp only [stepC] at h
    split at h
    · rename_i q hq
      have hc : a.eval c = .bool q := rep_bool (hq ▸ F.fr.eval c)
      refine wp_cond hc ?_
      cases q with
      | true => simp only [if_true] at h ⊢; exact (ihx s r h).1 D G Z m a w F hu Q hQ
      | false => simp only [Bool.false_eq_true, if_false] at h ⊢; exact (ihy s r h).1 D G Z m a w F hu Q hQ
    · cases h
  | block id c ih =>
    intro s r h
    refine ⟨fun D G Z m a w F hu Q hQ => ?_, fun b hb => by cases hb⟩
    simp only [stepC] at h
    cases hx : stepC P live call nt again c s with
    | none => rw [hx] at h; cases h
    | some r1 =>
      rw [hx] at h
      injection h with h
      refine wp_block ((ih s r1 hx).1 D G Z m a w F hu _ (fun a' w' Z' m' u1 u2 F' => ?_))
      obtain ⟨k, st⟩ := r1
      simp only at h
      split at h
      · rename_i hk
        subst h
        have := hQ a' w' Z' m' u1 u2 F'
        subst hk
        simp only [exitOf, Exit.inBlock, if_true]
        exact this
      · rename_i hk
        subst h
        have := hQ a' w' Z' m' u1 u2 F'
        rcases k with _ | _ | k
        · exact this
        · exact this
        · simp only [exitOf, Exit.inBlock]
          rw [if_neg (fun e => hk (by rw [e]))]
          exact this
  | loop c ih =>
    intro s r h
    have key : LoopOk P Y w0 nt (n + 1) c s r := by
      intro D G Z m a w F hu Q hQ
      simp only [stepC] at h
      cases hx : stepC P live call nt again c (canon (((fstRegion c).map fun id => live (2 * id)).getD []) (shareS (shq live c) s)) with
      | none => rw [hx] at h; cases h
      | some r1 =>
        rw [hx] at h
        simp only [Option.bind_some] at h
        obtain ⟨Z0, u0, F0, hu0⟩ := share_sim (shq live c) F hu
        obtain ⟨m1, F1, hu1⟩ := canon_sim (((fstRegion c).map fun id => live (2 * id)).getD []) F0 hu0
        rw [rounds_succ]
        refine (ih _ r1 hx).1 D G Z0 m1 a w F1 hu1 _ (fun a' w' Z' m' u1' u2 F' => ?_)
        have u1 := u0.trans u1'
        split at h
        · rename_i h0
          rw [h0]
          exact hag c r1.2 r h D G Z' m' a' w' F' u2 Q (fun a'' w'' Z'' m'' v1 v2 F'' => hQ a'' w'' Z'' m'' (u1.trans v1) v2 F'')
        · rename_i h0
          injection h with h; subst h
          have := hQ a' w' Z' m' u1 u2 F'
          obtain ⟨k, st⟩ := r1
          rcases k with _ | _ | k
          · exact absurd rfl h0
          · exact this
          · exact this
    exact ⟨fun D G Z m a w F hu Q hQ => wp_loop_rounds (n + 1) (key D G Z m a w F hu Q hQ), fun b hb => by injection hb with hb; subst hb; exact key⟩
  | exit id =>
    intro s r h
    injection h with h; subst h
    exact ⟨fun D G Z m a w F hu Q hQ => wp_exit (hQ a w Z m ZUp.refl hu F), fun b hb => by cases hb⟩
  | ret =>
    intro s r h
    injection h with h; subst h
    exact ⟨fun D G Z m a w F hu Q hQ => wp_ret (hQ a w Z m ZUp.refl hu F), fun b hb => by cases hb⟩
  | rangeFunc f p x y _ _ => intro s r h; cases h
  | scope c _ => intro s r h; cases h
  | label l => intro s r h; cases h
  | goto l => intro s r h; cases h
  | refuse w => intro s r h; cases h
end
section
variable {P : Program} {Z Y : ZMap} {m : Nat → Option Value} {w0 : WB} {w : World} {nt : Nat}
def resOne (tmps : Array Value) : ResultVar → Sem Value
  | .tmp t => pure (tmps.getD t undef)
  | .cell b t => do loadVar t (← asAddr (tmps.getD b undef))
theorem res_sim {D : List Deferred} {G : Nat → Option Value} {fn : Func} {s : St} {a : Act} (F : FrS D G w0 Z Y m nt s a w) {vs : List V} (h : resV P fn s = some vs) :
    ∃ cv, (results fn a.tmps).run P w = .ok cv w ∧ Rep Z Y m cv (oneOrTup vs) := by
  unfold resV at h
  obtain ⟨hl, hg⟩ := mapM_get _ _ _ h
  have hone : ∀ (i : Nat) rv v, fn.results[i]? = some rv → vs[i]? = some v → ∃ u, (resOne a.tmps rv).run P w = .ok u w ∧ Rep Z Y m u v := by
    intro i rv v hi hv
    have := hg i rv v (by simpa using hi) hv
    cases rv with
    | tmp t => injection this with this; subst this; exact ⟨_, rfl, F.fr.rep t⟩
    | cell b t =>
      simp only at this
      obtain ⟨cv, h1, h2⟩ := loadV_sim F.rel (fun _ _ h => h) this (F.fr.rep b)
      refine ⟨cv, ?_, h1⟩
      have hp : ∃ ad, a.tmps.getD b undef = .pointer (some ad) := by
        have hr := F.fr.rep b
        unfold loadV at this
        generalize a.tmps.getD b undef = u at hr
        split at this
        · rename_i e; rw [e] at hr; cases hr; exact ⟨_, rfl⟩
        · rename_i e; rw [e] at hr; cases hr; exact ⟨_, rfl⟩
        · rename_i e; rw [e] at hr; cases hr; exact ⟨_, rfl⟩
        · cases this
      obtain ⟨ad, hp⟩ := hp
      rw [hp] at h2
      simp only [Instr.loadAt, Instr.sureAddr, Sem.run_bind, Sem.run_pure, Result.andThen_ok] at h2
      simp only [resOne, hp, Sem.run_bind, asAddr, Sem.run_pure, Result.andThen_ok]
      exact h2
  obtain ⟨us, hul, hus⟩ : ∃ us : List Value, us.length = vs.length ∧ ∀ (i : Nat) rv v u, fn.results[i]? = some rv → vs[i]? = some v → us[i]? = some u → (resOne a.tmps rv).run P w = .ok u w ∧ Rep Z Y m u v := by
    have hlen : fn.results.size = vs.length := by simpa using hl
    have hex : ∀ i, i < vs.length → ∃ u, ∀ rv v, fn.results[i]? = some rv → vs[i]? = some v → (resOne a.tmps rv).run P w = .ok u w ∧ Rep Z Y m u v := by
      intro i hi
      obtain ⟨u, h1, h2⟩ := hone i (fn.results[i]'(by omega)) (vs[i]) (Array.getElem?_eq_getElem _) (List.getElem?_eq_getElem _)
      refine ⟨u, fun rv v hr hv => ?_⟩
      rw [Array.getElem?_eq_getElem (by omega)] at hr
      rw [List.getElem?_eq_getElem hi] at hv
      injection hr with hr; injection hv with hv; subst hr hv
      exact ⟨h1, h2⟩
    have : ∃ f : Nat → Value, ∀ i, i < vs.length → ∀ rv v, fn.results[i]? = some rv → vs[i]? = some v → (resOne a.tmps rv).run P w = .ok (f i) w ∧ Rep Z Y m (f i) v := by
      refine ⟨fun i => if hi : i < vs.length then (hex i hi).choose else undef, fun i hi => ?_⟩
      simp only [hi, dite_true]
      exact (hex i hi).choose_spec
    obtain ⟨f, hf⟩ := this
    refine ⟨(List.range vs.length).map f, by simp, fun i rv v u hr hv hu => ?_⟩
    have hi := (List.getElem?_eq_some_iff.1 hv).1
    rw [List.getElem?_map, List.getElem?_range hi] at hu
    injection hu with hu; subst hu
    exact hf i hi rv v hr hv
  have hrun : (results fn a.tmps).run P w = (if h : us.toArray.size = 1 then Result.ok (us.toArray[0]) w else .ok (.tuple us.toArray) w) := by
    unfold results
    rw [Sem.run_bind, run_mapMA (P := P) _ w fn.results us (by rw [hul]; simpa using hl) (fun i rv u hr hu => by
      have hi : i < vs.length := by rw [← hul]; exact (List.getElem?_eq_some_iff.1 hu).1
      have := (hus i rv (vs[i]) u hr (List.getElem?_eq_getElem hi) hu).1
      cases rv <;> exact this)]
    simp only [Result.andThen_ok, Sem.run_pure]
    split <;> rfl
  have hrep : ∀ (i : Nat) u v, us[i]? = some u → vs[i]? = some v → Rep Z Y m u v := fun i u v hu hv => by
    have hi := (List.getElem?_eq_some_iff.1 hv).1
    have hl' : fn.results.size = vs.length := by simpa using hl
    exact (hus i (fn.results[i]'(by omega)) v u (Array.getElem?_eq_getElem _) hv hu).2
  match vs, us, hul, hrep, hrun with
  | [v], [u], _, hrep, hrun =>
    exact ⟨u, by rw [hrun]; rfl, hrep 0 u v rfl rfl⟩
  | [], [], _, hrep, hrun =>
    exact ⟨.tuple #[], by rw [hrun]; rfl, .tup #[] [] rfl (by simp)⟩
  | v1 :: v2 :: vs, u1 :: u2 :: us, hul, hrep, hrun =>
    refine ⟨.tuple (u1 :: u2 :: us).toArray, ?_, .tup _ _ (by simpa using hul) (fun i u x hu hx => hrep i u x (by simpa using hu) hx)⟩
    rw [hrun, dif_neg (by simp)]
theorem rep_Y {Y' : ZMap} {v : Value} {x : V} (hx : okRes x = true) (r : Rep Z Y m v x) : Rep Z Y' m v x := by
  have cell : ∀ {v : Value} {x : V}, cellOk x = true → Rep Z Y m v x → Rep Z Y' m v x := by
    intro v x hx r
    cases r with
    | any v => exact .any v
    | c h => exact .c h
    | row id n A c h hA => exact .row id n A c h hA
    | row0 id A h => exact .row0 id A h
    | _ => cases hx
  have agg : ∀ {v : Value} {x : V}, aggOk x = true → Rep Z Y m v x → Rep Z Y' m v x := by
    intro v x hx r
    cases r with
    | agg vs cs hl h1 hr => exact .agg vs cs hl h1 (fun i u x hu hx' => cell (List.all_eq_true.1 hx x (List.mem_of_getElem? hx')) (hr i u x hu hx'))
    | c h => exact .c h
    | row id n A c h hA => exact .row id n A c h hA
    | row0 id A h => exact .row0 id A h
    | _ => cases hx
  cases r with
  | tup us vs hl hr => exact .tup us vs hl (fun i u x hu hx' => agg (List.all_eq_true.1 hx x (List.mem_of_getElem? hx')) (hr i u x hu hx'))
  | agg vs cs hl h1 hr => exact agg (x := .agg cs) hx (.agg vs cs hl h1 hr)
  | c h => exact .c h
  | row id n A c h hA => exact .row id n A c h hA
  | row0 id A h => exact .row0 id A h
  | _ => cases hx
end
section
/-- what a rule on the heap says -/
def RuleOk (P : Program) (f : FuncId) (n : Nat) (st : St) (vs : List V) (s1 : St) : Prop :=
  ∀ (G : Nat → Option Value) (w0 : WB) (w : World) (Z Y : ZMap) (m : Nat → Option Value) (cargs : Array Value), Rel w0 Z Y m st.h st.sh w → (∀ i, m i ≠ none → i < st.nx) → (∀ (i id : Nat) (u : Value), st.og[i]? = some id → G i = some u → m id = some u) →
    cargs.size = n → (∀ i, Rep Z Y m (cargs.getD i undef) (st.t i)) →
    Calls P f cargs w fun e w' => ∃ cv Z' m', e = .returned cv ∧ ZUp w0 Z Z' ∧ Rel w0 Z' Y m' s1.h s1.sh w' ∧ Rep Z' Y m' cv (oneOrTup vs) ∧ (∀ (i id : Nat) (u : Value), s1.og[i]? = some id → G i = some u → m' id = some u) ∧ ∀ i, m' i ≠ none → i < s1.nx
/-- the rules hold -/
structure XOk (P : Program) (X : XT) : Prop where
  c : ∀ f args r, X.c f args = some r → CallOk P f args r
  h : ∀ f R st vs s1, X.h f = some R → R.run (List V × St) st some = some (vs, s1) → RuleOk P f R.n st vs s1
variable {P : Program} {live : FuncId → Nat → List Nat} {X : XT}
theorem fin_rows {s : St} {vs : List V} {y : V × List B} (hfin : finV s vs = some y) : ∀ (i : Nat) b, y.2[i]? = some b → ∃ id es, (dd (topIds (nilT s.nx (oneOrTup vs))))[i]? = some id ∧ b = .row es ∧ nilH s.nx s.h id = some (.row es) ∧ nilSh s.nx s.sh id = false := by
  unfold finV at hfin
  simp only at hfin
  cases hbs : (dd (topIds (nilT s.nx (oneOrTup vs)))).mapM (ownRow (nilH s.nx s.h) (nilSh s.nx s.sh)) with
  | none => rw [hbs] at hfin; cases hfin
  | some bs =>
    rw [hbs] at hfin
    injection hfin with hfin; subst hfin
    obtain ⟨hbl, hbg⟩ := mapM_get _ _ _ hbs
    intro i b hi
    have hil : i < (dd (topIds (nilT s.nx (oneOrTup vs)))).length := by rw [hbl]; exact (List.getElem?_eq_some_iff.1 hi).1
    have := hbg i _ b (List.getElem?_eq_getElem hil) hi
    unfold ownRow at this
    split at this
    · cases this
    · rename_i hsh
      split at this
      · rename_i es hes
        injection this with this; subst this
        exact ⟨_, es, List.getElem?_eq_getElem hil, rfl, hes, by simpa using hsh⟩
      · cases this
/-- the end of a function -/
theorem fin_sim {w0 : WB} {w' : World} {Z Y : ZMap} {m : Nat → Option Value} {s : St} {vs : List V} {y : V × List B} {cv : Value} (R : Rel w0 Z Y m s.h s.sh w') (u2 : ∀ i, m i ≠ none → i < s.nx) (hrep : Rep Z Y m cv (oneOrTup vs)) (hfin : finV s vs = some y) (hok : okRes y.1 = true) :
    ∃ m'', Rel w0 Z (fun _ _ => none) m'' (fun i => y.2[i]?) (fun _ => false) w' ∧ Rep Z (fun _ _ => none) m'' cv y.1 ∧ ∀ i, m'' i ≠ none → i < y.2.length := by
  have hrows := fin_rows hfin
  unfold finV at hfin
  simp only at hfin
  cases hbs : (dd (topIds (nilT s.nx (oneOrTup vs)))).mapM (ownRow (nilH s.nx s.h) (nilSh s.nx s.sh)) with
  | none => rw [hbs] at hfin; cases hfin
  | some bs =>
    rw [hbs] at hfin
    injection hfin with hfin; subst hfin
    obtain ⟨hbl, hbg⟩ := mapM_get _ _ _ hbs
    have hR := R.nils u2
    have hrep' := nilT_rep (q := s.nx) u2 (Nat.le_refl _) hrep
    refine ⟨fun j => ((dd (topIds (nilT s.nx (oneOrTup vs))))[j]?).bind (nilM s.nx m), ?_, ?_, ?_⟩
    · have hR2 := hR.renum (dd (topIds (nilT s.nx (oneOrTup vs)))) (dd_nodup _)
      have hsome : ∀ (i : Nat) b, bs[i]? = some b → (((dd (topIds (nilT s.nx (oneOrTup vs))))[i]?).bind (nilH s.nx s.h)).map (B.renO (fun id => pos id (dd (topIds (nilT s.nx (oneOrTup vs)))))) = some b := fun i b hi => by
        obtain ⟨id, es, h1, h2, h3, _⟩ := hrows i b hi
        rw [h1, Option.bind_some, h3, h2]; rfl
      have hless := hR2.less (h' := fun i => bs[i]?) (fun i b hi => hsome i b hi)
      refine ⟨hless.bel, hless.gw, hless.zok, by simp, fun i cs hi => ?_, fun i es hi => ?_, fun i es q v hi => ?_, fun i l hi => (by obtain ⟨id, es, _, h2, _⟩ := hrows i _ hi; cases h2), hless.inj⟩
      · obtain ⟨id, es, _, h2, _⟩ := hrows i _ hi; cases h2
      rotate_left
      · obtain ⟨id, es, _, h2, _⟩ := hrows i _ hi; cases h2
      · have := hless.row i es hi
        obtain ⟨id, es', h1, _, _, h4⟩ := hrows i _ hi
        rw [h1] at this
        simp only [Option.map_some, Option.getD_some, h4] at this
        exact this
    · refine rep_Y hok (topO_rep (fun id j v hp hv => ?_) hrep')
      show Option.bind _ _ = some v
      rw [pos_get hp]; exact hv
    · intro i hi
      rw [← hbl]
      rcases Nat.lt_or_ge i (dd (topIds (nilT s.nx (oneOrTup vs)))).length with h | h
      · exact h
      · exfalso; apply hi; simp only; rw [List.getElem?_eq_none h]; rfl
/-- several values, or one -/
theorem one_list {Z Y : ZMap} {m : Nat → Option Value} {cv : Value} {vs : List V} (hrep : Rep Z Y m cv (oneOrTup vs)) : ∃ cs : Array Value, cs.size = vs.length ∧ (∀ (i : Nat) u x, cs[i]? = some u → vs[i]? = some x → Rep Z Y m u x) ∧ ∀ (Z1 Y1 : ZMap) (m1 : Nat → Option Value) (ws : List V), ws.length = vs.length → (∀ (i : Nat) u x, cs[i]? = some u → ws[i]? = some x → Rep Z1 Y1 m1 u x) → Rep Z1 Y1 m1 cv (oneOrTup ws) := by
  match vs, hrep with
  | [v], hrep =>
    refine ⟨#[cv], rfl, fun i u x hu hx => ?_, fun Z1 Y1 m1 ws hl hw => ?_⟩
    · cases i with
      | zero => simp at hu hx; subst hu hx; exact hrep
      | succ i => simp at hu
    · match ws, hl with
      | [w1], _ => exact hw 0 cv w1 rfl rfl
  | [], hrep =>
    cases hrep with
    | tup us _ hl hr => exact ⟨us, hl, hr, fun Z1 Y1 m1 ws hl' hw => by
        have : ws = [] := List.eq_nil_of_length_eq_zero hl'
        subst this
        exact .tup us [] hl (by simp)⟩
  | v1 :: v2 :: vs', hrep =>
    cases hrep with
    | tup us _ hl hr => exact ⟨us, hl, hr, fun Z1 Y1 m1 ws hl' hw => by
        match ws, hl' with
        | w1 :: w2 :: ws', hl' => exact .tup us _ (by rw [hl, hl']) hw⟩
theorem finQ_rows {q : Bool} {s : St} {vs : List V} {y : V × List B} (hfin : finQ q s vs = some y) : ∀ b ∈ y.2, ∃ es, b = .row es := by
  have key : ∀ (s : St) vs, finV s vs = some y → ∀ b ∈ y.2, ∃ es, b = .row es := fun s vs h b hb => by
    obtain ⟨i, hi⟩ := List.getElem?_of_mem hb
    obtain ⟨id, es, _, h2, _⟩ := fin_rows h i b hi
    exact ⟨es, h2⟩
  unfold finQ at hfin
  cases q with
  | false => exact key s vs hfin
  | true =>
    rw [cond_true] at hfin
    cases hf : frzAs s.h vs with
    | none => rw [hf] at hfin; cases hfin
    | some x =>
      rw [hf] at hfin
      simp only [Option.bind_some] at hfin
      split at hfin
      · exact key _ _ hfin
      · cases hfin
theorem finQ_sim {q : Bool} {w0 : WB} {w' : World} {Z Y : ZMap} {m : Nat → Option Value} {s : St} {vs : List V} {y : V × List B} {cv : Value} (R : Rel w0 Z Y m s.h s.sh w') (u2 : ∀ i, m i ≠ none → i < s.nx) (hrep : Rep Z Y m cv (oneOrTup vs)) (hfin : finQ q s vs = some y) (hok : okRes y.1 = true) :
    ∃ Z'' m'', ZUp w0 Z Z'' ∧ Rel w0 Z'' (fun _ _ => none) m'' (fun i => y.2[i]?) (fun _ => false) w' ∧ Rep Z'' (fun _ _ => none) m'' cv y.1 ∧ ∀ i, m'' i ≠ none → i < y.2.length := by
  unfold finQ at hfin
  cases q with
  | false =>
    obtain ⟨m'', h⟩ := fin_sim R u2 hrep hfin hok
    exact ⟨Z, m'', ZUp.refl, h⟩
  | true =>
    rw [cond_true] at hfin
    cases hf : frzAs s.h vs with
    | none => rw [hf] at hfin; cases hfin
    | some x =>
      rw [hf] at hfin
      simp only [Option.bind_some] at hfin
      split at hfin
      case isFalse => cases hfin
      rename_i hok1
      obtain ⟨cs, hcl, hcr, hre⟩ := one_list hrep
      obtain ⟨Z1, u1, R1, l1, r1⟩ := frzAs_sim (fun _ _ h => h) vs (us := cs.toList) R hf (by simpa using hcl) (fun i u v hu hv => hcr i u v (by simpa using hu) hv)
      have hrep1 : Rep Z1 Y m cv (oneOrTup x.1) := (rep_Y (m := noM) hok1 (hre Z1 (lent w') noM x.1 l1 (fun i u v hu hv => r1 i u v (by simpa using hu) hv))).mono (ZLe.refl _) noM_mono
      obtain ⟨m'', h⟩ := fin_sim (s := { s with sh := flag s.sh x.2 }) R1 u2 hrep1 hfin hok
      exact ⟨Z1, m'', u1, h⟩
theorem finH_sim {q : Bool} {w0 : WB} {w' : World} {Z Y : ZMap} {m : Nat → Option Value} {s : St} {vs : List V} {z : List V × St} {cv : Value} (R : Rel w0 Z Y m s.h s.sh w') (hrep : Rep Z Y m cv (oneOrTup vs)) (hfin : finH q s vs = some z) :
    ∃ Z1, ZUp w0 Z Z1 ∧ Rel w0 Z1 Y m z.2.h z.2.sh w' ∧ Rep Z1 Y m cv (oneOrTup z.1) ∧ z.2.og = s.og ∧ z.2.nx = s.nx := by
  unfold finH at hfin
  cases q with
  | false =>
    rw [cond_false] at hfin
    injection hfin with hfin; subst hfin
    exact ⟨Z, ZUp.refl, R, hrep, rfl, rfl⟩
  | true =>
    rw [cond_true] at hfin
    cases hf : frzAs s.h vs with
    | none => rw [hf] at hfin; cases hfin
    | some x =>
      rw [hf] at hfin
      simp only [Option.bind_some] at hfin
      split at hfin
      case isFalse => cases hfin
      rename_i hok1
      injection hfin with hfin; subst hfin
      obtain ⟨cs, hcl, hcr, hre⟩ := one_list hrep
      obtain ⟨Z1, u1, R1, l1, r1⟩ := frzAs_sim (fun _ _ h => h) vs (us := cs.toList) R hf (by simpa using hcl) (fun i u v hu hv => hcr i u v (by simpa using hu) hv)
      have hrep1 : Rep Z1 Y m cv (oneOrTup x.1) := (rep_Y (m := noM) hok1 (hre Z1 (lent w') noM x.1 l1 (fun i u v hu hv => r1 i u v (by simpa using hu) hv))).mono (ZLe.refl _) noM_mono
      exact ⟨Z1, u1, R1, hrep1, rfl, rfl⟩
theorem callD_sim {fz : FuncId → Bool} (hX : XOk P X) {ex : FuncId → Nat → Code → St → Option (Nat × St)} (hex : ∀ f nt c s r (Y : ZMap) (w0 : WB), ex f nt c s = some r → CodeOk P Y w0 nt c s r) {f : FuncId} {args : List V} {res : V × List B} (h : callD P fz X.c ex f args = some res) : CallOk P f args res := by
  unfold callD at h
  split at h
  · rename_i r hr
    injection h with h; subst h
    exact hX.c f args r hr
  · cases hb : bodyOf P f with
    | none => rw [hb] at h; cases h
    | some fn =>
      rw [hb] at h
      simp only [Option.bind_some] at h
      split at h
      case isFalse => cases h
      rename_i hnt
      cases hc : fn.body with
      | none => rw [hc] at h; cases h
      | some c =>
        rw [hc] at h
        simp only [Option.bind_some] at h
        cases he : ex f fn.ntmps c { t := fun i => args.getD i .any, h := fun _ => none, sh := fun _ => false, nx := 0, lr := fun _ => [], lw := fun _ => [], og := [] } with
        | none => rw [he] at h; cases h
        | some x =>
          rw [he] at h
          simp only [Option.bind_some] at h
          split at h
          case isFalse => cases h
          rename_i hx1
          cases hv : resV P fn x.2 with
          | none => rw [hv] at h; cases h
          | some vs =>
            rw [hv] at h
            simp only [Option.bind_some] at h
            cases hfin : finQ (fz f) x.2 vs with
            | none => rw [hfin] at h; cases h
            | some y =>
              rw [hfin] at h
              simp only [Option.bind_some] at h
              split at h
              case isFalse => cases h
              rename_i hok
              injection h with h; subst h
              have hfun : P.funcs[f]? = some fn := by
                unfold bodyOf at hb
                cases hf : P.funcs[f]? with
                | none => rw [hf] at hb; cases hb
                | some g =>
                  rw [hf] at hb
                  simp only [Option.bind_some] at hb
                  split at hb
                  · cases hb
                  · exact hb
              refine ⟨hok, finQ_rows hfin, ?_⟩
              intro w Z Y cargs hGW hZ hY hcs hcr
              have F0 : FrS [] (fun _ => none) (wb w) Z Y noM fn.ntmps { t := fun i => args.getD i .any, h := fun _ => none, sh := fun _ => false, nx := 0, lr := fun _ => [], lw := fun _ => [], og := [] } { tmps := cargs ++ Array.replicate (fn.ntmps - cargs.size) undef, defers := [] } w := by
                refine ⟨⟨by simp; omega, fun i => ?_⟩, ⟨Frm.refl _ _, ⟨hGW, GB.no hGW⟩, hZ, fun b o u h => ⟨hY b o u h, fun h => h⟩, by simp, by simp, by simp, by simp, by simp⟩, by simp, rfl⟩
                show Rep Z Y noM _ (args.getD i .any)
                rw [List.getD_eq_getElem?_getD]
                cases hai : args[i]? with
                | none => exact .any _
                | some v =>
                  have hil : i < cargs.size := by rw [hcs]; exact (List.getElem?_eq_some_iff.1 hai).1
                  rw [Array.getD_eq_getD_getElem?, Array.getElem?_append_left hil, Array.getElem?_eq_getElem hil]
                  exact hcr i _ v (Array.getElem?_eq_getElem hil) hai
              refine calls_of_wp hfun hc (hex f fn.ntmps c _ x Y (wb w) he [] (fun _ => none) Z noM _ w F0 (fun i hi => absurd rfl hi) _ (fun a' w' Z' m' u1 u2 F' => ?_))
              obtain ⟨cv, hrun, hrep⟩ := res_sim F' hv
              obtain ⟨Z'', m'', v1, v2, v3, v4⟩ := finQ_sim F'.rel u2 hrep hfin hok
              have hbody : a'.defers = [] ∧ ∃ v, (results fn a'.tmps).run P w' = .ok v w' ∧ ∃ cv Z'' m'', Ending.returned v = .returned cv ∧ ZUp (wb w) Z Z'' ∧ Rel (wb w) Z'' (fun _ _ => none) m'' (fun i => y.2[i]?) (fun _ => false) w' ∧ Rep Z'' (fun _ _ => none) m'' cv y.1 ∧ ∀ i, m'' i ≠ none → i < y.2.length :=
                ⟨F'.df, cv, hrun, cv, Z'', m'', rfl, u1.trans v1, v2, v3, v4⟩
              obtain ⟨k, st⟩ := x
              rcases k with _ | _ | k
              · exact hbody
              · exact hbody
              · simp at hx1
/-- the last state, numbered anew -/
theorem end_sim {G : Nat → Option Value} {w0 : WB} {Z' Y : ZMap} {m' : Nat → Option Value} {w' : World} {s1 : St} {vs : List V} {cv : Value} (hR : Rel w0 Z' Y m' s1.h s1.sh w') (hog : ∀ (i id : Nat) (v : Value), s1.og[i]? = some id → G i = some v → m' id = some v) (u2 : ∀ i, m' i ≠ none → i < s1.nx) (hrep : Rep Z' Y m' cv (oneOrTup vs)) :
    ∃ m2, Rel w0 Z' Y m2 (endN vs s1).h (endN vs s1).sh w' ∧ Rep Z' Y m2 cv (oneOrTup ((List.range vs.length).map (endN vs s1).t)) ∧ (∀ (i id : Nat) (u : Value), (endN vs s1).og[i]? = some id → G i = some u → m2 id = some u) ∧ ∀ i, m2 i ≠ none → i < (endN vs s1).nx := by
  obtain ⟨cs, hcl, hcr', hre⟩ : ∃ cs : Array Value, cs.size = vs.length ∧ (∀ (i : Nat) u x, cs[i]? = some u → vs[i]? = some x → Rep Z' Y m' u x) ∧ ∀ (Z1 Y1 : ZMap) (m1 : Nat → Option Value) (ws : List V), ws.length = vs.length → (∀ (i : Nat) u x, cs[i]? = some u → ws[i]? = some x → Rep Z1 Y1 m1 u x) → Rep Z1 Y1 m1 cv (oneOrTup ws) := by
    match vs, hrep with
    | [v], hrep =>
      refine ⟨#[cv], rfl, fun i u x hu hx => ?_, fun Z1 Y1 m1 ws hl hw => ?_⟩
      · cases i with
        | zero => simp at hu hx; subst hu hx; exact hrep
        | succ i => simp at hu
      · match ws, hl with
        | [w1], _ => exact hw 0 cv w1 rfl rfl
    | [], hrep =>
      cases hrep with
      | tup us _ hl hr => exact ⟨us, hl, hr, fun Z1 Y1 m1 ws hl' hw => by
          have : ws = [] := List.eq_nil_of_length_eq_zero hl'
          subst this
          exact .tup us [] hl (by simp)⟩
    | v1 :: v2 :: vs', hrep =>
      cases hrep with
      | tup us _ hl hr => exact ⟨us, hl, hr, fun Z1 Y1 m1 ws hl' hw => by
          match ws, hl' with
          | w1 :: w2 :: ws', hl' => exact .tup us _ (by rw [hl, hl']) hw⟩
  have FA : FrS [] G w0 Z' Y m' vs.length { s1 with t := fun i => vs.getD i .any } { tmps := cs, defers := [] } w' := by
    refine ⟨⟨hcl, fun i => ?_⟩, hR, hog, rfl⟩
    show Rep Z' Y m' _ (vs.getD i .any)
    rw [List.getD_eq_getElem?_getD]
    cases hai : vs[i]? with
    | none => exact .any _
    | some v =>
      have hil : i < cs.size := by rw [hcl]; exact (List.getElem?_eq_some_iff.1 hai).1
      rw [Array.getD_eq_getD_getElem?, Array.getElem?_eq_getElem hil]
      exact hcr' i _ v (Array.getElem?_eq_getElem hil) hai
  obtain ⟨m2, F2, hu2⟩ := canon_sim (List.range vs.length) FA u2
  exact ⟨m2, F2.rel, hre _ _ _ _ (by simp) (fun i u y hu hy => by
    rw [List.getElem?_map] at hy
    have hi : i < vs.length := by rw [← hcl]; exact (Array.getElem?_eq_some_iff.1 hu).1
    rw [List.getElem?_range hi] at hy
    injection hy with hy; subst hy
    have := F2.fr.rep i
    rw [Array.getD_eq_getD_getElem?, hu] at this
    exact this), F2.og, hu2⟩
/-- what HeapOk says behind a call -/
def HeapR (G : Nat → Option Value) (w0 : WB) (Z Y : ZMap) (v : V) (s1 : St) (e : Ending) (w' : World) : Prop :=
  ∃ cv Z' m', e = .returned cv ∧ ZUp w0 Z Z' ∧ Rel w0 Z' Y m' s1.h s1.sh w' ∧ Rep Z' Y m' cv v ∧ (∀ (i id : Nat) (u : Value), s1.og[i]? = some id → G i = some u → m' id = some u) ∧ ∀ i, m' i ≠ none → i < s1.nx
theorem runH_wp {fz : FuncId → Bool} {ex : FuncId → Nat → Code → St → Option (Nat × St)} (hex : ∀ f nt c s r (Y : ZMap) (w0 : WB), ex f nt c s = some r → CodeOk P Y w0 nt c s r) {f : FuncId} {args : List V} {s0 : St} {v : V} {s1 : St} (h : runH P fz ex f args s0 = some (v, s1)) :
    ∀ (G : Nat → Option Value) (w0 : WB) (w : World) (Z Y : ZMap) (m : Nat → Option Value) (cargs : Array Value), Rel w0 Z Y m s0.h s0.sh w → (∀ i, m i ≠ none → i < s0.nx) → (∀ (i id : Nat) (u : Value), s0.og[i]? = some id → G i = some u → m id = some u) →
    cargs.size = args.length → (∀ (i : Nat) u x, cargs[i]? = some u → args[i]? = some x → Rep Z Y m u x) →
    ∃ fn c, P.funcs[f]? = some fn ∧ fn.body = some c ∧ c.wp P (bodyPost P fn (HeapR G w0 Z Y v s1)) { tmps := cargs ++ Array.replicate (fn.ntmps - cargs.size) undef, defers := [] } w := by
  unfold runH at h
  cases hb : bodyOf P f with
  | none => simp only [hb] at h; cases h
  | some fn =>
    simp only [hb, Option.bind_some] at h
    split at h
    case isFalse => cases h
    rename_i hnt
    cases hc : fn.body with
    | none => rw [hc] at h; cases h
    | some c =>
      rw [hc] at h
      simp only [Option.bind_some] at h
      cases he : ex f fn.ntmps c (canon (List.range args.length) { t := fun i => args.getD i .any, h := s0.h, sh := s0.sh, nx := s0.nx, lr := fun _ => [], lw := fun _ => [], og := s0.og }) with
      | none => rw [he] at h; cases h
      | some x =>
        rw [he] at h
        simp only [Option.bind_some] at h
        split at h
        case isFalse => cases h
        rename_i hx1
        cases hv : resV P fn x.2 with
        | none => rw [hv] at h; cases h
        | some vs =>
          rw [hv] at h
          simp only [Option.bind_some] at h
          cases hfin : finH (fz f) x.2 vs with
          | none => rw [hfin] at h; cases h
          | some z =>
          rw [hfin] at h
          simp only [Option.map_some, Option.some.injEq, Prod.mk.injEq] at h
          obtain ⟨rfl, rfl⟩ := h
          have hfun : P.funcs[f]? = some fn := by
            unfold bodyOf at hb
            cases hf : P.funcs[f]? with
            | none => rw [hf] at hb; cases hb
            | some g =>
              rw [hf] at hb
              simp only [Option.bind_some] at hb
              split at hb
              · cases hb
              · exact hb
          intro G w0 w Z Y m cargs hR hu hog hcs hcr
          have F0 : FrS [] G w0 Z Y m fn.ntmps { t := fun i => args.getD i .any, h := s0.h, sh := s0.sh, nx := s0.nx, lr := fun _ => [], lw := fun _ => [], og := s0.og } { tmps := cargs ++ Array.replicate (fn.ntmps - cargs.size) undef, defers := [] } w := by
            refine ⟨⟨by simp; omega, fun i => ?_⟩, hR, hog, rfl⟩
            show Rep Z Y m _ (args.getD i .any)
            rw [List.getD_eq_getElem?_getD]
            cases hai : args[i]? with
            | none => exact .any _
            | some v =>
              have hil : i < cargs.size := by rw [hcs]; exact (List.getElem?_eq_some_iff.1 hai).1
              rw [Array.getD_eq_getD_getElem?, Array.getElem?_append_left hil, Array.getElem?_eq_getElem hil]
              exact hcr i _ v (Array.getElem?_eq_getElem hil) hai
          obtain ⟨m0, F1, hu1⟩ := canon_sim (List.range args.length) F0 hu
          refine ⟨fn, c, hfun, hc, hex f fn.ntmps c _ x Y w0 he [] G Z m0 _ w F1 hu1 _ (fun a' w' Z' m' u1 u2 F' => ?_)⟩
          obtain ⟨cv, hrun, hrep⟩ := res_sim F' hv
          obtain ⟨Z1, v1, v2, v3, v4, v5⟩ := finH_sim F'.rel hrep hfin
          obtain ⟨m2, e1, e2, e3, e4⟩ := end_sim v2 (by rw [v4]; exact F'.og) (by rw [v5]; exact u2) v3
          have hbody : a'.defers = [] ∧ ∃ v, (results fn a'.tmps).run P w' = .ok v w' ∧ ∃ cv Z'' m'', Ending.returned v = .returned cv ∧ ZUp w0 Z Z'' ∧ Rel w0 Z'' Y m'' (endN z.1 z.2).h (endN z.1 z.2).sh w' ∧ Rep Z'' Y m'' cv (oneOrTup ((List.range z.1.length).map (endN z.1 z.2).t)) ∧ (∀ (i id : Nat) (u : Value), (endN z.1 z.2).og[i]? = some id → G i = some u → m'' id = some u) ∧ ∀ i, m'' i ≠ none → i < (endN z.1 z.2).nx :=
            ⟨F'.df, cv, hrun, cv, Z1, m2, rfl, u1.trans v1, e1, e2, e3, e4⟩
          obtain ⟨k, st⟩ := x
          rcases k with _ | _ | k
          · exact hbody
          · exact hbody
          · simp at hx1
/-- a heap call by its own laws: what it needs, and what it gives -/
theorem heapD_back {Z Y : ZMap} {m : Nat → Option Value} {w0 : WB} {w : World} {s : St} (R : Rel w0 Z Y m s.h s.sh w) {g : List V → St → Option (V × St)} {asx : List V} {N : Nat} {lv : List Nat} {base : Nat} (hfr : ∀ i, base ≤ i → i < base + 8 → m i = none ∧ s.h i = none) {y : V × (Nat → Option B) × (Nat → Bool)} (hy : heapD g asx N lv base s = some y) :
    ∃ v s1, g asx { t := fun _ => .any, h := onlyB (reach s.h asx) s.h, sh := s.sh, nx := N, lr := fun _ => [], lw := fun _ => [], og := ogK (reach s.h asx) lv s } = some (v, s1) ∧
      ∀ e w', HeapR (fun j => ((ogK (reach s.h asx) lv s)[j]?).bind m) ⟨w, handA m s.h (reach s.h asx)⟩ Z Y v s1 e w' →
        ∃ cv Z' m', e = .returned cv ∧ ZUp w0 Z Z' ∧ MLe m m' ∧ (∀ i, m' i ≠ none → m i ≠ none ∨ (base ≤ i ∧ i < base + 8)) ∧ Rel w0 Z' Y m' y.2.1 y.2.2 w' := by
  unfold heapD at hy
  generalize hK : reach s.h asx = K at hy ⊢
  generalize hog : ogK K lv s = og at hy ⊢
  cases hx : g asx { t := fun _ => .any, h := onlyB K s.h, sh := s.sh, nx := N, lr := fun _ => [], lw := fun _ => [], og := og } with
  | none => rw [hx] at hy; cases hy
  | some x =>
    obtain ⟨v, s1⟩ := x
    rw [hx] at hy
    simp only [Option.bind_some] at hy
    split at hy
    case isFalse => cases hy
    rename_i hc
    obtain ⟨hlen, h8⟩ := hc
    injection hy with hy; subst hy
    refine ⟨v, s1, rfl, ?_⟩
    rintro e w' ⟨cv, Z', m', rfl, hz', Rc, rep, hog', hmb'⟩
    have hfr' : ∀ i, base ≤ i → i < base + s1.nx → m i = none ∧ s.h i = none := fun i h1 h2 => hfr i h1 (by omega)
    have hogs : ∀ id ∈ og, id ∈ K ∧ s.h id ≠ none := fun id hid => by
      rw [← hog] at hid
      unfold ogK at hid
      obtain ⟨h1, h2⟩ := List.mem_filter.1 hid
      rw [Bool.and_eq_true] at h2
      refine ⟨h1, fun hn => ?_⟩
      rw [hn] at h2
      simp at h2
    have hG : ∀ q j u, s1.og[q]? = some j → (og[q]?).bind m = some u → m' j = some u := fun q j u h1 h2 => hog' q j u h1 h2
    have hzz : ZUp w0 Z Z' := ⟨hz'.le, fun b o u hbu => (hz'.own b o u hbu).imp id fun h => h.elim (fun h => .inl (Nat.le_trans R.bel.size h)) (handA_own R)⟩
    refine ⟨cv, Z', bkM base s1 m' m, rfl, hzz, bkM_le hfr', fun i hi => ?_, R.back Rc hz' hmb' hfr' hogs hlen hG⟩
    unfold bkM at hi
    split at hi
    · rename_i hr; exact .inr ⟨hr.1, by omega⟩
    · exact .inl hi
theorem dfOp_spec {l : List Oper} {k p g : Nat} (h : dfOp l = some (k, p, g)) : ∃ (o1 o2 : Oper) (ats : Array TypeId), l = [o1, o2] ∧ o1.op = .makeFunc (.func g) #[] #[.tmp p] ∧ o2.op = .defer { callee := .value (.tmp k), args := #[], argTypes := ats } ∧ o1.dst = some k ∧ o2.dst = none ∧ o1.guard = none ∧ o2.guard = none ∧ Nat.blt g 1000000 = true := by
  unfold dfOp at h
  split at h
  case h_2 => cases h
  rename_i o1 o2
  split at h
  case h_2 => cases h
  rename_i g' first caps k' args ats h1 h2
  split at h
  case h_2 => cases h
  rename_i p' e1 e2 e3
  split at h
  case isFalse => cases h
  rename_i hc
  obtain ⟨c1, c2, c3, c4, c5⟩ := hc
  injection h with h
  injection h with h h'
  injection h' with h' h''
  subst h h' h''
  have f1 : first = #[] := by rw [← Array.toList_inj]; exact e1
  have f2 : caps = #[.tmp p'] := by rw [← Array.toList_inj]; exact e2
  have f3 : args = #[] := by rw [← Array.toList_inj]; exact e3
  subst f1 f2 f3
  exact ⟨o1, o2, ats, rfl, h1, h2, c1, c2, c3, c4, c5⟩
/-- the region that defers -/
theorem defer_wp {ops : Array Oper} {k p g id : Nat} (h : dfOp ops.toList = some (k, p, g)) {rest : Code} {a : Act} {w : World} (hk : k < a.tmps.size) {Q : Exit → Act → World → Prop}
    (hw : rest.wp P Q { a.put (some k) (.func (.func g) #[] #[a.tmps.getD p undef]) with defers := { target := .fn (.func g) #[a.tmps.getD p undef], args := #[] } :: a.defers } w) : (Code.seq (.region id ops false) rest).wp P Q a w := by
  obtain ⟨o1, o2, ats, hl, h1, h2, d1, d2, g1, g2, _⟩ := dfOp_spec h
  refine wp_seq (wp_region_list ?_)
  rw [hl]
  refine wpList_step fun K1 hK1 => ?_
  rw [show Region.wanted o1 (yielded ops a.tmps) = true from by unfold Region.wanted; rw [g1], if_pos rfl]
  refine wp_value (cv := .func (.func g) #[] #[a.tmps.getD p undef]) (w' := w) ?_ (hK1 _ _ ?_)
  · have he : a.eval (.tmp p) = a.tmps.getD p undef := rfl
    rw [execOp, h1]
    simp [Instr.makeFunc, he]
  · refine wpList_step fun K2 hK2 => ?_
    rw [show Region.wanted o2 (yielded ops (a.put o1.dst (.func (.func g) #[] #[a.tmps.getD p undef])).tmps) = true from by unfold Region.wanted; rw [g2], if_pos rfl]
    have hev : (a.put o1.dst (.func (.func g) #[] #[a.tmps.getD p undef])).eval (.tmp k) = .func (.func g) #[] #[a.tmps.getD p undef] := by
      rw [d1]
      show (a.tmps.setIfInBounds k _).getD k undef = _
      simp [Array.getD, hk]
    have hrun : (execOp (a.put o1.dst (.func (.func g) #[] #[a.tmps.getD p undef])).eval o2).run P w = .ok (.defer { target := .fn (.func g) #[a.tmps.getD p undef], args := #[] }) w := by
      simp only [execOp, h2, resolve, hev, Deferred.ofValue, Sem.run_bind, Sem.run_pure, Result.andThen_ok]
      simp
    unfold Oper.wp
    rw [hrun, Oper.upon_defer]
    refine hK2 _ _ ?_
    unfold wpList
    rw [d2, d1]
    have hd : ∀ (b : Act), b.put none undef = b := fun _ => rfl
    rw [hd, put_df]
    exact hw
theorem headD_spec {b : Code} {x : Nat × Nat × Nat × Code} (h : headD b = some x) : ∃ id ops, b = .seq (.region id ops false) x.2.2.2 ∧ dfOp ops.toList = some (x.1, x.2.1, x.2.2.1) := by
  unfold headD at h
  split at h
  · rename_i id ops rest
    cases hd : dfOp ops.toList with
    | none => rw [hd] at h; cases h
    | some y =>
      rw [hd] at h
      injection h with h; subst h
      exact ⟨id, ops, rfl, hd⟩
  · cases h
/-- what stands ahead of the region that defers -/
theorem split_sim {Y : ZMap} {w0 : WB} {nt : Nat} {ex : Code → St → Option (Nat × St)} (hex : ∀ c s r, ex c s = some r → CodeOk P Y w0 nt c s r) : ∀ (c : Code) (d : List Code × Nat × Nat × Nat × Code), splitD c = some d → ∃ id ops, dfOp ops.toList = some (d.2.1, d.2.2.1, d.2.2.2.1) ∧
    ∀ s x, exL ex d.1 s = some x → x.1 = 0 ∧ ∀ (D : List Deferred) (G : Nat → Option Value) Z m a w, FrS D G w0 Z Y m nt s a w → (∀ i, m i ≠ none → i < s.nx) → ∀ Q, (∀ a' w' Z' m', ZUp w0 Z Z' → (∀ i, m' i ≠ none → i < x.2.nx) → FrS D G w0 Z' Y m' nt x.2 a' w' → (Code.seq (.region id ops false) d.2.2.2.2).wp P Q a' w') → c.wp P Q a w := by
  intro c
  induction c with
  | seq u v _ ih =>
    intro d h
    unfold splitD at h
    cases hh : headD v with
    | some x =>
      rw [hh] at h
      injection h with h; subst h
      obtain ⟨id, ops, hv, ho⟩ := headD_spec hh
      refine ⟨id, ops, ho, fun s y hy => ?_⟩
      simp only [exL] at hy
      cases hu : ex u s with
      | none => rw [hu] at hy; cases hy
      | some r =>
        rw [hu] at hy
        simp only [Option.bind_some] at hy
        split at hy
        case isFalse => cases hy
        rename_i h0
        injection hy with hy; subst hy
        refine ⟨rfl, fun D G Z m a w F hb Q hQ => wp_seq (hex u s r hu D G Z m a w F hb _ (fun a' w' Z' m' u1 u2 F' => ?_))⟩
        rw [h0, hv]
        exact hQ a' w' Z' m' u1 u2 F'
    | none =>
      rw [hh] at h
      simp only at h
      cases hs : splitD v with
      | none => rw [hs] at h; cases h
      | some d' =>
        rw [hs] at h
        injection h with h; subst h
        obtain ⟨id, ops, ho, hx⟩ := ih d' hs
        refine ⟨id, ops, ho, fun s y hy => ?_⟩
        simp only [exL] at hy
        cases hu : ex u s with
        | none => rw [hu] at hy; cases hy
        | some r =>
          rw [hu] at hy
          simp only [Option.bind_some] at hy
          split at hy
          case isFalse => cases hy
          rename_i h0
          obtain ⟨e0, hx⟩ := hx r.2 y hy
          refine ⟨e0, fun D G Z m a w F hb Q hQ => wp_seq (hex u s r hu D G Z m a w F hb _ (fun a' w' Z' m' u1 u2 F' => ?_))⟩
          rw [h0]
          exact hx D G Z' m' a' w' F' u2 Q (fun a'' w'' Z'' m'' v1 v2 F'' => hQ a'' w'' Z'' m'' (u1.trans v1) v2 F'')
  | _ => intro d h; cases h
theorem lastN_get : ∀ {l : List Nat} {id : Nat}, lastN l = some id → l[l.length - 1]? = some id
  | [x], id, h => by simpa [lastN] using h
  | x :: y :: l, id, h => by
    have := lastN_get (l := y :: l) h
    simpa using this
theorem runHD_sim {fz : FuncId → Bool} {ex : FuncId → Nat → Code → St → Option (Nat × St)} (hex : ∀ f nt c s r (Y : ZMap) (w0 : WB), ex f nt c s = some r → CodeOk P Y w0 nt c s r) {f : FuncId} {args : List V} {s0 : St} {v : V} {s1 : St} (h : runHD P fz ex f args s0 = some (v, s1)) : HeapOk P f args s0 v s1 := by
  unfold runHD at h
  cases hb : bodyOf P f with
  | none => simp only [hb] at h; cases h
  | some fn =>
  simp only [hb, Option.bind_some] at h
  split at h
  case isFalse => cases h
  rename_i hnt
  cases hc : fn.body with
  | none => rw [hc] at h; cases h
  | some c =>
  rw [hc] at h
  simp only [Option.bind_some] at h
  cases hd : splitD c with
  | none => rw [hd] at h; cases h
  | some d =>
  rw [hd] at h
  simp only [Option.bind_some] at h
  cases hx : exL (ex f fn.ntmps) d.1 (canon (List.range args.length) (hst args s0)) with
  | none => rw [hx] at h; cases h
  | some x =>
  rw [hx] at h
  simp only [Option.bind_some] at h
  cases hdf : defD fn.ntmps d.2.1 d.2.2.1 x with
  | none => rw [hdf] at h; cases h
  | some sd =>
  rw [hdf] at h
  simp only [Option.bind_some] at h
  cases hy : ex f fn.ntmps d.2.2.2.2 sd with
  | none => rw [hy] at h; cases h
  | some y =>
  rw [hy] at h
  simp only [Option.bind_some] at h
  split at h
  case isFalse => cases h
  rename_i hy1
  obtain ⟨hy1, hlen⟩ := hy1
  cases he : endD (runH P fz ex d.2.2.2.1) (slotsR fn) y.2 with
  | none => rw [he] at h; cases h
  | some s2 =>
  rw [he] at h
  simp only [Option.bind_some] at h
  cases hv : resV P fn s2 with
  | none => rw [hv] at h; cases h
  | some vs =>
  rw [hv] at h
  simp only [Option.bind_some] at h
  cases hfin : finH (fz f) s2 vs with
  | none => rw [hfin] at h; cases h
  | some zf =>
  rw [hfin] at h
  simp only [Option.map_some, Option.some.injEq, Prod.mk.injEq] at h
  obtain ⟨rfl, rfl⟩ := h
  have hfun : P.funcs[f]? = some fn := by
    unfold bodyOf at hb
    cases hf : P.funcs[f]? with
    | none => rw [hf] at hb; cases hb
    | some g =>
      rw [hf] at hb
      simp only [Option.bind_some] at hb
      split at hb
      · cases hb
      · exact hb
  intro G w0 w Z Y m cargs hR hu hog hcs hcr
  have F0 : FrS [] G w0 Z Y m fn.ntmps (hst args s0) { tmps := cargs ++ Array.replicate (fn.ntmps - cargs.size) undef, defers := [] } w := by
    refine ⟨⟨by simp; omega, fun i => ?_⟩, hR, hog, rfl⟩
    show Rep Z Y m _ (args.getD i .any)
    rw [List.getD_eq_getElem?_getD]
    cases hai : args[i]? with
    | none => exact .any _
    | some v =>
      have hil : i < cargs.size := by rw [hcs]; exact (List.getElem?_eq_some_iff.1 hai).1
      rw [Array.getD_eq_getD_getElem?, Array.getElem?_append_left hil, Array.getElem?_eq_getElem hil]
      exact hcr i _ v (Array.getElem?_eq_getElem hil) hai
  obtain ⟨m0, F1, hu1⟩ := canon_sim (List.range args.length) F0 hu
  obtain ⟨idR, ops, hop, hsp⟩ := split_sim (fun c s r hr => hex f fn.ntmps c s r Y w0 hr) c d hd
  obtain ⟨x0, hsp⟩ := hsp _ x hx
  refine calls_of_wp_defers hfun hc (hsp [] G Z m0 _ w F1 hu1 _ (fun a1 w1 Z1 m1 u1 b1 Fa => ?_))
  -- the deferring region
  unfold defD at hdf
  rw [if_pos x0] at hdf
  split at hdf
  case h_2 => cases hdf
  rename_i idp hp hk
  split at hdf
  case isFalse => cases hdf
  rename_i hkn
  injection hdf with hdf
  have hrp := Fa.fr.rep d.2.2.1
  rw [hp] at hrp
  generalize hpv : a1.tmps.getD d.2.2.1 undef = pv at hrp
  obtain ⟨gb, hpv2, hmp⟩ : ∃ gb, pv = .pointer (some ⟨gb, 0, none⟩) ∧ m1 idp = some pv := by
    cases hrp with
    | ptr _ _ gb hm => exact ⟨gb, rfl, hm⟩
  refine defer_wp hop (by rw [Fa.fr.size]; exact hkn) ?_
  rw [hpv, Fa.df]
  have Fb : FrS [{ target := .fn (.func d.2.2.2.1) #[pv], args := #[] }] (fun i => if i = x.2.og.length then some pv else G i) w0 Z1 Y m1 fn.ntmps sd { a1.put (some d.2.1) (.func (.func d.2.2.2.1) #[] #[pv]) with defers := [{ target := .fn (.func d.2.2.2.1) #[pv], args := #[] }] } w1 := by
    subst hdf
    have hput := Fa.fr.put (some d.2.1) (by simpa using hkn) (v := .func (.func d.2.2.2.1) #[] #[pv]) (x := .any) (.any _)
    refine ⟨⟨hput.size, fun i => ?_⟩, Fa.rel, fun i id v hi hg => ?_, rfl⟩
    · have := hput.rep i
      have e : putD x.2.t (some d.2.1) V.any i = x.2.t i := by
        simp only [putD, upd]
        split
        · rename_i e; rw [e, hk]
        · rfl
      rw [e] at this
      exact this
    · simp only at hi hg
      rcases Nat.lt_or_ge i x.2.og.length with hlt | hge
      · rw [List.getElem?_append_left hlt] at hi
        rw [if_neg (by omega)] at hg
        exact Fa.og i id v hi hg
      · rw [List.getElem?_append_right hge] at hi
        have hi0 : i - x.2.og.length = 0 := by
          cases hz : i - x.2.og.length with
          | zero => rfl
          | succ n => rw [hz] at hi; simp at hi
        rw [hi0] at hi
        simp only [List.getElem?_cons_zero, Option.some.injEq] at hi
        subst hi
        rw [if_pos (by omega)] at hg
        injection hg with hg; subst hg
        exact hmp
  have hsdo : sd.og = x.2.og ++ [idp] := by subst hdf; rfl
  have hsdn : sd.nx = x.2.nx := by subst hdf; rfl
  refine hex f fn.ntmps d.2.2.2.2 sd y Y w0 hy _ _ Z1 m1 _ w1 Fb (by rw [hsdn]; exact b1) _ (fun a3 w3 Z3 m3 u3 b3 Fc => ?_)
  -- the deferred call
  have hbody : Leaves P fn a3.tmps (HeapR G w0 Z Y (oneOrTup ((List.range zf.1.length).map (endN zf.1 zf.2).t)) (endN zf.1 zf.2)) a3.defers .returning w3 := by
    rw [Fc.df]
    unfold endD at he
    cases hl : lastN y.2.og with
    | none => rw [hl] at he; cases he
    | some idq =>
    rw [hl] at he
    simp only [Option.bind_some] at he
    cases hh : heapD (runH P fz ex d.2.2.2.1) [.ptr idq 0] y.2.nx (slotsR fn) y.2.nx { y.2 with og := y.2.og.dropLast } with
    | none => rw [hh] at he; cases he
    | some z =>
    rw [hh] at he
    injection he with he
    have hyl : y.2.og.length = x.2.og.length + 1 := by rw [hlen, hsdo]; simp
    have hmq : m3 idq = some pv := by
      refine Fc.og x.2.og.length idq pv ?_ (by simp)
      have := lastN_get hl
      rw [hyl] at this
      simpa using this
    have hfr : ∀ i, y.2.nx ≤ i → i < y.2.nx + 8 → m3 i = none ∧ y.2.h i = none := fun i h1 _ => by
      have hmi : m3 i = none := by
        cases hcc : m3 i with
        | none => rfl
        | some v => have := b3 i (by rw [hcc]; simp); omega
      refine ⟨hmi, ?_⟩
      cases hcc : y.2.h i with
      | none => rfl
      | some b => exact absurd hmi (Fc.rel.m_of_h (by rw [hcc]; simp))
    obtain ⟨vg, sg, hg1, hg2⟩ := heapD_back (s := { y.2 with og := y.2.og.dropLast }) Fc.rel hfr hh
    obtain ⟨fg, cg, hfg, hcg, hwg⟩ := runH_wp hex hg1 (fun j => ((ogK (reach y.2.h [.ptr idq 0]) (slotsR fn) { y.2 with og := y.2.og.dropLast })[j]?).bind m3) _ w3 Z3 Y m3 #[pv] (Fc.rel.hand _) b3 (fun i id u h1 h2 => by
      rw [h1] at h2
      exact h2) rfl (fun i u x hu hx => by
        cases i with
        | zero =>
          simp only [List.getElem?_cons_zero, Option.some.injEq] at hx
          simp at hu
          subst hu hx
          rw [hpv2] at hmq ⊢
          exact .ptr idq 0 gb hmq
        | succ i => simp at hx)
    refine leaves_cons (by simp) (f := d.2.2.2.1) (args := #[pv]) ?_ ((callsD_of_wp hfg hcg hwg).mono ?_)
    · have hbg : ∃ fb, bodyOf P d.2.2.2.1 = some fb := by
        unfold runH at hg1
        cases hbb : bodyOf P d.2.2.2.1 with
        | none => simp only [hbb] at hg1; cases hg1
        | some fb => exact ⟨fb, rfl⟩
      obtain ⟨fb, hbg⟩ := hbg
      simp only [invoke, Array.empty_append, bodyOf_call hbg]
    · rintro e u' w4 ⟨rfl, hR4⟩
      obtain ⟨cv, Z4, m4, rfl, z4, l4, r4, R4⟩ := hg2 e w4 hR4
      have F4 : FrS [{ target := .fn (.func d.2.2.2.1) #[pv], args := #[] }] G w0 Z4 Y m4 fn.ntmps s2 a3 w4 := by
        subst he
        refine ⟨Fc.fr.mono z4.le l4, R4, fun i id u h1 h2 => ?_, Fc.df⟩
        simp only at h1
        have hil : i < y.2.og.dropLast.length := (List.getElem?_eq_some_iff.1 h1).1
        rw [List.length_dropLast, hyl] at hil
        rw [List.getElem?_dropLast] at h1
        split at h1
        · exact l4 _ _ (Fc.og i id u h1 (by rw [if_neg (by omega)]; exact h2))
        · cases h1
      have hn4 : ∀ i, m4 i ≠ none → i < s2.nx := fun i hi => by
        subst he
        show i < y.2.nx + 8
        rcases r4 i hi with h | h
        · have := b3 i h; omega
        · omega
      obtain ⟨cv4, hrun, hrep⟩ := res_sim F4 hv
      obtain ⟨Z5, v1, v2, v3, v4, v5⟩ := finH_sim F4.rel hrep hfin
      obtain ⟨m5, e1, e2, e3, e4⟩ := end_sim v2 (by rw [v4]; exact F4.og) (by rw [v5]; exact hn4) v3
      exact ⟨cv4, hrun, cv4, Z5, m5, rfl, ((u1.trans u3).trans z4).trans v1, e1, e2, e3, e4⟩
  obtain ⟨k, st⟩ := y
  rcases k with _ | _ | k
  · exact hbody
  · exact hbody
  · simp at hy1
theorem callH_sim {io df fz : FuncId → Bool} (hX : XOk P X) {ex : FuncId → Nat → Code → St → Option (Nat × St)} (hex : ∀ f nt c s r (Y : ZMap) (w0 : WB), ex f nt c s = some r → CodeOk P Y w0 nt c s r) {f : FuncId} {g : List V → St → Option (V × St)} (hg : callH P io df fz X.h ex f = some g) {args : List V} {s0 : St} {v : V} {s1 : St} (h : g args s0 = some (v, s1)) : HeapOk P f args s0 v s1 := by
  unfold callH at hg
  split at hg
  · rename_i g' hg'
    injection hg with hg; subst hg
    unfold runX at h
    split at h
    case isFalse => cases h
    rename_i hn
    cases he : g'.run (List V × St) (canon (List.range args.length) (hst args s0)) some with
    | none => rw [he] at h; cases h
    | some x =>
    rw [he] at h
    simp only [Option.map_some, Option.some.injEq, Prod.mk.injEq] at h
    obtain ⟨rfl, rfl⟩ := h
    intro G w0 w Z Y m cargs hR hu hog hcs hcr
    have F0 : FrS [] G w0 Z Y m args.length (hst args s0) { tmps := cargs, defers := [] } w := by
      refine ⟨⟨hcs, fun i => ?_⟩, hR, hog, rfl⟩
      show Rep Z Y m _ (args.getD i .any)
      rw [List.getD_eq_getElem?_getD]
      cases hai : args[i]? with
      | none => exact .any _
      | some v =>
        have hil : i < cargs.size := by rw [hcs]; exact (List.getElem?_eq_some_iff.1 hai).1
        rw [Array.getD_eq_getD_getElem?, Array.getElem?_eq_getElem hil]
        exact hcr i _ v (Array.getElem?_eq_getElem hil) hai
    obtain ⟨m0, F1, hu1⟩ := canon_sim (List.range args.length) F0 hu
    refine (hX.h f g' _ x.1 x.2 hg' he G w0 w Z Y m0 cargs F1.rel hu1 F1.og (by rw [hcs, hn]) F1.fr.rep).mono ?_
    rintro e w' ⟨cv, Z', m', rfl, a1, a2, a3, a4, a5⟩
    obtain ⟨m2, e1, e2, e3, e4⟩ := end_sim a2 a4 a5 a3
    exact ⟨cv, Z', m2, rfl, a1, e1, e2, e3, e4⟩
  cases hio : io f with
  | false => rw [hio] at hg; cases hg
  | true =>
  rw [hio, cond_true] at hg
  injection hg with hg
  rw [← hg] at h
  cases hdf : df f with
  | true =>
    rw [hdf, cond_true] at h
    exact runHD_sim hex h
  | false =>
    rw [hdf, cond_false] at h
    intro G w0 w Z Y m cargs hR hu hog hcs hcr
    obtain ⟨fn, c, hfun, hc, hw⟩ := runH_wp hex h G w0 w Z Y m cargs hR hu hog hcs hcr
    exact calls_of_wp hfun hc hw
theorem execD_sim (hmo : P.follows .mixedOrders = true) (hX : XOk P X) : ∀ (n : Nat) (f : FuncId) (nt : Nat) (c : Code) (s : St) (r : Nat × St) (Y : ZMap) (w0 : WB), execD P live X n f nt c s = some r → CodeOk P Y w0 nt c s r ∧ ∀ b, c = .loop b → LoopOk P Y w0 nt n b s r
  | 0, _, _, _, _, _, _, _, h => by cases h
  | n + 1, f, nt, c, s, r, Y, w0, h => by
    have ih := execD_sim hmo hX n
    exact stepC_sim hmo (fun g args res hc => callD_sim hX (fun f nt c s r Y w0 he => (ih f nt c s r Y w0 he).1) hc) (fun f g args s0 v s1 hg h => callH_sim (io := ioB live) (df := dfB live) (fz := fzL live) hX (fun f nt c s r Y w0 he => (ih f nt c s r Y w0 he).1) hg h) (fun b s r hb => (ih f nt (.loop b) s r Y w0 hb).2 b rfl) c s r h
/-- what the machine answers, with any fuel -/
theorem call_sound (hmo : P.follows .mixedOrders = true) (hX : XOk P X) {n : Nat} {f : FuncId} {args : List V} {res : V × List B} (h : callD P (fzL live) X.c (execD P live X n) f args = some res) : CallOk P f args res :=
  callD_sim hX (fun f nt c s r Y w0 he => (execD_sim hmo hX n f nt c s r Y w0 he).1) h
end
end Go.Proofs.YtomnbknaanlmaaaGreatDoor
