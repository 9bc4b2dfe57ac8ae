/- Operations that reckon with values alone: all of them. -/
import Derived.Test.YtokahibbkdbndaaDLight
namespace Go.Proofs.Ytokahibbkdbndaa
open Go.RowKit
section
variable {P : Program} {Z Y : ZMap} {m : Nat → Option Value}

theorem add_off (b o n : Nat) : (Addr.mk b o none).add n = ⟨b, o + n, none⟩ := by
  unfold Addr.add
  split
  · rename_i h; subst h; rfl
  · rfl

theorem rep_bool {v : Value} {q : Bool} (r : Rep Z Y m v (.c (.bool q))) : v = .bool q := by cases r with | c r => cases r; rfl
theorem rep_int {v : Value} {k : IntKind} {n : Int} (r : Rep Z Y m v (.c (.int k n))) : v = .int k n := by cases r with | c r => cases r; rfl
theorem rep_str {v : Value} {s : ByteArray} (r : Rep Z Y m v (.c (.str s))) : v = .string s := by cases r with | c r => cases r; rfl

theorem getElem?_map_toList {r : Operand → V} {ρ : Operand → Value} (hρ : ∀ x, Rep Z Y m (ρ x) (r x)) (xs : Array Operand) (i : Nat) (u : Value) (y : V) (hu : (xs.map ρ)[i]? = some u) (hy : (xs.toList.map r)[i]? = some y) : Rep Z Y m u y := by
  simp only [Array.getElem?_map, List.getElem?_map, Array.getElem?_toList] at hu hy
  cases hx : xs[i]? with
  | none => rw [hx] at hu; cases hu
  | some x =>
    rw [hx] at hu hy
    injection hu with hu
    injection hy with hy
    subst hu hy
    exact hρ x

theorem min_sim {mx : Bool} {x y v : V} {vx vy : Value} (h : minV mx x y = some v) (rx : Rep Z Y m vx x) (ry : Rep Z Y m vy y) :
    ∃ cv, Rep Z Y m cv v ∧ ∀ w, (if mx then Builtin.max_ #[] 0 #[vx, vy] else Builtin.min_ #[] 0 #[vx, vy]).run P w = .ok cv w := by
  unfold minV at h
  split at h
  · rename_i k a k' b
    have e1 := rep_int rx
    have e2 := rep_int ry
    subst e1 e2
    split at h
    · rename_i hk
      injection h with h
      subst h hk
      cases mx with
      | true => exact ⟨_, .c (.int _ _), fun w => by simp [Builtin.max_, Builtin.max2]⟩
      | false => exact ⟨_, .c (.int _ _), fun w => by simp [Builtin.min_, Builtin.min2]⟩
    · cases h
  · cases h

set_option maxHeartbeats 1000000 in
theorem ev0_sim {r : Operand → V} {ρ : Operand → Value} (hρ : ∀ x, Rep Z Y m (ρ x) (r x)) {o : Oper} {v : V} (h : ev0 P r o.op = some v) : ∃ cv, Rep Z Y m cv v ∧ ∀ w, (execOp ρ o).run P w = .ok (.value cv) w := by
  obtain ⟨dst, op, ty, pos, aft, gd⟩ := o
  simp only at h
  unfold ev0 at h
  split at h
  · rename_i x
    injection h with h
    subst h
    exact ⟨_, hρ x, fun w => rfl⟩
  · rename_i x
    injection h with h
    subst h
    exact ⟨_, hρ x, fun w => rfl⟩
  · rename_i c a b
    split at h
    · rename_i q hq
      have e : ρ c = .bool q := rep_bool (hq ▸ hρ c)
      injection h with h
      subst h
      cases q with
      | true => exact ⟨_, hρ a, fun w => by simp [execOp, e, asBool]⟩
      | false => exact ⟨_, hρ b, fun w => by simp [execOp, e, asBool]⟩
    · cases h
  · rename_i t parts
    cases hz : zeroV P t with
    | none => rw [hz] at h; cases h
    | some z =>
      rw [hz] at h
      simp only [Option.bind_some] at h
      obtain ⟨zv, rz, ez, wz⟩ := zeroV_sim (Z := Z) (Y := Y) (m := m) hz
      split at h
      · rename_i cs fs hu
        obtain ⟨vs, rfl⟩ := vOf_agg ez
        cases hp : (fs.toList.mapM fun f => (szO P f.type).map fun n => (f.offset, n)) with
        | none => rw [hp] at h; cases h
        | some pl =>
          rw [hp] at h
          simp only [Option.bind_some] at h
          cases hb : buildV (fun i => pl[i]?) cs (parts.toList.map fun p => (p.1, r p.2)) with
          | none => rw [hb] at h; cases h
          | some out =>
            rw [hb] at h
            injection h with h
            subst h
            obtain ⟨vs', h1, h2⟩ := fill_sim hρ parts.toList cs vs out hb rz
            obtain ⟨hl, hg⟩ := mapM_get _ _ _ hp
            refine ⟨_, h2, fun w => ?_⟩
            have hm := run_mapMA (P := P) (fun f : Field => do pure (f.offset, ← sizeOf f.type)) w fs pl (by simpa using hl) (fun i f p hf hq => by
              have := hg i f p (by simpa using hf) hq
              cases hs : szO P f.type with
              | none => rw [hs] at this; cases this
              | some n =>
                rw [hs] at this
                injection this with this
                subst this
                simp only [Sem.run_bind, run_sz hs, Result.andThen_ok, Sem.run_pure])
            have e : (parts.map fun p => (p.1, ρ p.2)).toList = parts.toList.map fun p => (p.1, ρ p.2) := by simp
            have e' : (fun i : Nat => pl.toArray[i]?) = fun i : Nat => pl[i]? := by funext i; simp
            simp only [execOp, Instr.build, Sem.run_bind, wz, Result.andThen_ok, run_und hu, hm, e, Value.cells]
            rw [e', h1]
            rfl
      · rename_i cs n e hu
        obtain ⟨vs, rfl⟩ := vOf_agg ez
        cases hs : szO P e with
        | none => rw [hs] at h; cases h
        | some k =>
          rw [hs] at h
          simp only [Option.bind_some] at h
          cases hb : buildV (fun i => some (i * k, k)) cs (parts.toList.map fun p => (p.1, r p.2)) with
          | none => rw [hb] at h; cases h
          | some out =>
            rw [hb] at h
            injection h with h
            subst h
            obtain ⟨vs', h1, h2⟩ := fill_sim hρ parts.toList cs vs out hb rz
            refine ⟨_, h2, fun w => ?_⟩
            have e : (parts.map fun p => (p.1, ρ p.2)).toList = parts.toList.map fun p => (p.1, ρ p.2) := by simp
            simp only [execOp, Instr.build, Sem.run_bind, wz, Result.andThen_ok, run_und hu, run_sz hs, e, Value.cells]
            rw [h1]
            rfl
      · cases h
  · rename_i x
    have r' := hρ x
    split at h
    · rename_i id off hx
      injection h with h; subst h
      rw [hx] at r'
      refine ⟨_, r', fun w => ?_⟩
      simp only [execOp]
      generalize ρ x = vx at r'
      cases r'
      rfl
    · rename_i id k i off hx
      injection h with h; subst h
      rw [hx] at r'
      refine ⟨_, r', fun w => ?_⟩
      simp only [execOp]
      generalize ρ x = vx at r'
      cases r'
      rfl
    · rename_i cs off hx
      injection h with h; subst h
      rw [hx] at r'
      refine ⟨_, r', fun w => ?_⟩
      simp only [execOp]
      generalize ρ x = vx at r'
      cases r'
      rfl
    · rename_i f caps hx
      injection h with h; subst h
      rw [hx] at r'
      refine ⟨_, r', fun w => ?_⟩
      simp only [execOp]
      generalize ρ x = vx at r'
      cases r' <;> rfl
    · cases h
  · rename_i op t x y yt
    obtain ⟨cv, h1, h2⟩ := bin_sim (x := x) (y := y) h (hρ x) (hρ y)
    exact ⟨cv, h1, fun w => by simp only [execOp, Sem.run_bind, h2, Result.andThen_ok]; rfl⟩
  · rename_i op t x
    have r' := hρ x
    unfold unV at h
    split at h
    · rename_i k n hx
      injection h with h; subst h
      rw [hx] at r'
      have e := rep_int r'
      exact ⟨_, .c (.int _ _), fun w => by simp [execOp, e, Op.unary, Op.intArith]⟩
    · rename_i b hx
      injection h with h; subst h
      rw [hx] at r'
      have e := rep_bool r'
      exact ⟨_, .c (.bool _), fun w => by simp [execOp, e, Op.unary]⟩
    · cases h
  · rename_i src dst x
    have r' := hρ x
    split at h
    · rename_i k0 k k1 n h1 h2 hx
      injection h with h; subst h
      rw [hx] at r'
      have e := rep_int r'
      exact ⟨_, .c (.int _ _), fun w => by simp [execOp, e, convert, run_und h1, run_und h2, Conv.intToInt]⟩
    · rename_i s h1 h2 hx
      injection h with h; subst h
      rw [hx] at r'
      have e := rep_str r'
      exact ⟨_, .c (.str _), fun w => by simp [execOp, e, convert, run_und h1, run_und h2]⟩
    · cases h
  · rename_i f first caps
    cases hb : Nat.blt f 1000000 with
    | false => rw [hb] at h; cases h
    | true =>
    rw [hb, cond_true] at h
    split at h
    · rename_i hf
      injection h with h; subst h
      have e : first = #[] := by simpa using hf
      subst e
      refine ⟨_, .fn f (caps.map ρ) (caps.toList.map r) (by simp) (fun i u y hu hy => getElem?_map_toList hρ caps i u y hu hy) hb, fun w => ?_⟩
      simp [execOp, Instr.makeFunc]
    · split at h
      · rename_i hf
        injection h with h; subst h
        have e : caps = #[] := by simpa using hf
        subst e
        refine ⟨_, .bnd f (first.map ρ) (first.toList.map r) (by simp) (fun i u y hu hy => getElem?_map_toList hρ first i u y hu hy) hb, fun w => ?_⟩
        simp [execOp, Instr.makeFunc]
      · cases h
  · rename_i t x i
    have r' := hρ x
    split at h
    · rename_i fs hu
      cases hf : fs[i]? with
      | none => rw [hf] at h; cases h
      | some f =>
        rw [hf] at h
        simp only [Option.bind_some] at h
        cases hs : szO P f.type with
        | none => rw [hs] at h; cases h
        | some n =>
          rw [hs] at h
          simp only [Option.bind_some] at h
          split at h
          · cases h
          · rename_i hn
            have key : ∀ (b o : Nat) (w : World), ρ x = .pointer (some ⟨b, o, none⟩) → (execOp ρ { dst := dst, op := .fieldAddr t x i, type := ty, pos := pos, after := aft, guard := gd }).run P w = .ok (.value (.pointer (some ⟨b, o + f.offset, none⟩))) w := by
              intro b o w e
              simp [execOp, e, Instr.fieldAt, run_und hu, hf, Instr.sureAddr, fieldPlace, run_sz hs, hn, add_off]
            split at h
            · rename_i id off hx
              injection h with h; subst h
              rw [hx] at r'
              generalize hv : ρ x = vx at r'
              cases r' with
              | ptr _ _ g hm => exact ⟨_, .ptr id (off + f.offset) g hm, fun w => key g off w hv⟩
            · rename_i id k j off hx
              injection h with h; subst h
              rw [hx] at r'
              generalize hv : ρ x = vx at r'
              cases r' with
              | rptr _ _ _ _ g n c hm =>
                refine ⟨_, .rptr id k j (off + f.offset) g n c hm, fun w => ?_⟩
                rw [key g (j * k + off) w hv, Nat.add_assoc]
            · rename_i cs off hx
              injection h with h; subst h
              rw [hx] at r'
              generalize hv : ρ x = vx at r'
              cases r' with
              | eptr b o _ U _ hz hr =>
                refine ⟨_, .eptr b o (off + f.offset) U cs hz hr, fun w => ?_⟩
                rw [key b (o + off) w hv, Nat.add_assoc]
            · cases h
    · cases h
  · rename_i t x i
    have r' := hρ x
    split at h
    · rename_i fs cs hu hx
      cases hf : fs[i]? with
      | none => rw [hf] at h; cases h
      | some f =>
        rw [hf] at h
        simp only [Option.bind_some] at h
        rw [hx] at r'
        generalize hv : ρ x = vx at r'
        cases r' with
        | agg vs _ hl h1 hr =>
          obtain ⟨cv, h2, h3⟩ := part_sim h (.agg vs cs hl h1 hr)
          exact ⟨cv, h2, fun w => by simp [execOp, hv, Instr.field, run_und hu, hf, asAgg, h3]⟩
    · cases h
  · rename_i t x ix
    have r' := hρ x
    have ri := hρ ix
    split at h
    · rename_i e id n k0 i hu hx hi
      rw [hx] at r'
      rw [hi] at ri
      have ei := rep_int ri
      cases hs : szO P e with
      | none => rw [hs] at h; cases h
      | some k =>
        rw [hs] at h
        simp only [Option.bind_some] at h
        split at h
        · rename_i hb
          injection h with h; subst h
          generalize hv : ρ x = vx at r'
          cases r' with
          | row _ _ A c hm hA =>
            obtain ⟨g, rfl⟩ := hA (by omega)
            refine ⟨_, .rptr id k i.toNat 0 g n c hm, fun w => ?_⟩
            simp [execOp, hv, ei, Instr.indexAt, asIntOf, run_und hu, hb, run_sz hs, add_off]
          | row0 _ A hm => omega
        · cases h
    · rename_i e es k0 i hu hx hi
      rw [hx] at r'
      rw [hi] at ri
      have ei := rep_int ri
      cases hs : szO P e with
      | none => rw [hs] at h; cases h
      | some k =>
        rw [hs] at h
        simp only [Option.bind_some] at h
        split at h
        · rename_i hb
          cases he : es[i.toNat]? with
          | none => rw [he] at h; cases h
          | some el =>
            rw [he] at h
            simp only [Option.bind_some] at h
            split at h
            · rename_i hk
              injection h with h; subst h
              generalize hv : ρ x = vx at r'
              cases r' with
              | c r' => cases r' with
                | sl A n c k' b off U _ hl hc hm hk' hA hz hr hN =>
                  have hne : es ≠ [] := by intro e; subst e; cases he
                  have hi' := (List.getElem?_eq_some_iff.1 he).1
                  have hkk : k' = k := by rw [← hk]; exact (hk' el (List.mem_of_getElem? he)).symm
                  subst hkk
                  have := hA hne
                  subst this
                  refine ⟨_, .eptr b (off + i.toNat * k') 0 (fun j => U (i.toNat * k' + j)) el (fun j x hj => .inl (by rw [Nat.add_assoc]; exact hz i.toNat el j x he hj)) (fun j x hj => hr i.toNat el j x he hj), fun w => ?_⟩
                  have hb' : 0 ≤ i ∧ i < (n : Int) := by omega
                  simp [execOp, hv, ei, Instr.indexAt, asIntOf, run_und hu, hb', run_sz hs, add_off]
            · cases h
        · cases h
    · rename_i len e id off k0 i hu hx hi
      rw [hx] at r'
      rw [hi] at ri
      have ei := rep_int ri
      cases hs : szO P e with
      | none => rw [hs] at h; cases h
      | some k =>
        rw [hs] at h
        simp only [Option.bind_some] at h
        split at h
        · rename_i hb
          injection h with h; subst h
          generalize hv : ρ x = vx at r'
          cases r' with
          | ptr _ _ g hm =>
            refine ⟨_, .ptr id (off + i.toNat * k) g hm, fun w => ?_⟩
            simp [execOp, hv, ei, Instr.indexAt, asIntOf, run_und hu, hb, run_sz hs, add_off, Instr.sureAddr]
        · cases h
    · cases h
  · rename_i t x ix
    have r' := hρ x
    have ri := hρ ix
    split at h
    · rename_i s k0 i hu hx hi
      rw [hx] at r'
      rw [hi] at ri
      have ei := rep_int ri
      have es := rep_str r'
      unfold strIx at h
      split at h
      · rename_i hb
        cases hg : s[i.toNat]? with
        | none => rw [hg] at h; cases h
        | some b =>
          rw [hg] at h
          injection h with h; subst h
          exact ⟨_, .c (.int _ _), fun w => by simp [execOp, ei, es, Instr.index, asIntOf, run_und hu, hb, hg]⟩
      · cases h
    · rename_i len e cs k0 i hu hx hi
      rw [hx] at r'
      rw [hi] at ri
      have ei := rep_int ri
      cases hs : szO P e with
      | none => rw [hs] at h; cases h
      | some k =>
        rw [hs] at h
        simp only [Option.bind_some] at h
        split at h
        · rename_i hb
          generalize hv : ρ x = vx at r'
          cases r' with
          | agg vs _ hl h1 hr =>
            obtain ⟨cv, h2, h3⟩ := part_sim h (.agg vs cs hl h1 hr)
            exact ⟨cv, h2, fun w => by simp [execOp, hv, ei, Instr.index, asIntOf, run_und hu, hb, run_sz hs, h3]⟩
        · cases h
    · cases h
  · rename_i t x lo hi
    have r' := hρ x
    split at h
    · rename_i s hu hx
      rw [hx] at r'
      have es := rep_str r'
      cases hh : bnd (hi.map r) s.size s.size with
      | none => rw [hh] at h; cases h
      | some u =>
        rw [hh] at h
        simp only [Option.bind_some] at h
        cases hl : bnd (lo.map r) 0 u with
        | none => rw [hl] at h; cases h
        | some l =>
          rw [hl] at h
          injection h with h; subst h
          refine ⟨_, .c (.str _), fun w => ?_⟩
          have b1 := bnd_sim (P := P) (code := .sliceAlen) (vx := hi.map ρ) hh (by simp) (fun a b ha hb => by cases hi <;> simp at ha hb; subst ha hb; exact hρ _) w
          have b2 := bnd_sim (P := P) (code := .sliceB) (vx := lo.map ρ) hl (by simp) (fun a b ha hb => by cases lo <;> simp at ha hb; subst ha hb; exact hρ _) w
          have hu' : ∀ n e, (TypeDesc.string = .array n e) → False := by intro n e h; cases h
          cases hi <;> cases lo <;> simp [Option.map] at b1 b2 <;> simp [execOp, es, Instr.sliceAt, Instr.slice, run_und hu, Instr.sliceBounds, b1, b2]
    · cases h
  · rename_i x i
    have r' := hρ x
    split at h
    · rename_i vs hx
      rw [hx] at r'
      generalize hv : ρ x = vx at r'
      cases r' with
      | tup cs _ hl hr =>
        have hi : i < cs.size := by rw [hl]; exact (List.getElem?_eq_some_iff.1 h).1
        exact ⟨cs[i], hr i _ _ (Array.getElem?_eq_getElem hi) h, fun w => by simp [execOp, hv, Instr.extract, Array.getElem?_eq_getElem hi]⟩
    · cases h
  · rename_i args ats
    have key : ∀ (d : TypeDesc) (vx : Value) (n : Nat), (ats[0]?).bind P.underlying = some d → (args[0]?).map ρ = some vx → ((d = .string ∧ ∃ s, vx = .string s ∧ s.size = n) ∨ ((∃ e, d = .slice e) ∧ ∃ A c, vx = .slice A n c)) → ∀ w,
        (execOp ρ { dst := dst, op := .call { callee := .builtin .len, args := args, argTypes := ats }, type := ty, pos := pos, after := aft, guard := gd }).run P w = .ok (.value (.int .i64 n)) w := by
      intro d vx n hd hx hc w
      cases ha : ats[0]? with
      | none => rw [ha] at hd; cases hd
      | some t =>
        rw [ha] at hd
        have hx' : (args.map ρ)[0]? = some vx := by simpa using hx
        rcases hc with ⟨rfl, s, rfl, rfl⟩ | ⟨⟨e, rfl⟩, A, c, rfl⟩ <;> simp [execOp, resolve, invoke, builtin, Builtin.len_, ha, hx', run_und (show P.underlying t = _ from hd), goInt]
    have hget : ∀ y, (args[0]?).map r = some y → ∃ vx, (args[0]?).map ρ = some vx ∧ Rep Z Y m vx y := by
      intro y hy
      cases ha : args[0]? with
      | none => rw [ha] at hy; cases hy
      | some x => rw [ha] at hy; injection hy with hy; subst hy; exact ⟨_, rfl, hρ x⟩
    split at h
    · rename_i s hd hx
      injection h with h; subst h
      obtain ⟨vx, h1, h2⟩ := hget _ hx
      have := rep_str h2
      subst this
      exact ⟨_, .c (.int _ _), key _ _ _ hd h1 (.inl ⟨rfl, s, rfl, rfl⟩)⟩
    · rename_i e es hd hx
      injection h with h; subst h
      obtain ⟨vx, h1, h2⟩ := hget _ hx
      cases h2 with | c h2 => cases h2 with
        | sl A n c k' b off U _ hl hc hm hk' hA hz hr hN =>
          subst hl
          exact ⟨_, .c (.int _ _), key _ _ _ hd h1 (.inr ⟨⟨e, rfl⟩, _, _, rfl⟩)⟩
    · rename_i e hd hx
      injection h with h; subst h
      obtain ⟨vx, h1, h2⟩ := hget _ hx
      cases h2 with | c h2 => cases h2; exact ⟨_, .c (.int _ _), key _ _ 0 hd h1 (.inr ⟨⟨e, rfl⟩, _, _, rfl⟩)⟩
    · rename_i e hd hx
      injection h with h; subst h
      obtain ⟨vx, h1, h2⟩ := hget _ hx
      cases h2 with | c h2 => cases h2; exact ⟨_, .c (.int _ _), key _ _ 0 hd h1 (.inr ⟨⟨e, rfl⟩, _, _, rfl⟩)⟩
    · rename_i e hd hx
      injection h with h; subst h
      obtain ⟨vx, h1, h2⟩ := hget _ hx
      cases h2 with | c h2 => cases h2; exact ⟨_, .c (.int _ _), key _ _ 0 hd h1 (.inr ⟨⟨e, rfl⟩, _, _, rfl⟩)⟩
    · rename_i e id n hd hx
      injection h with h; subst h
      obtain ⟨vx, h1, h2⟩ := hget _ hx
      cases h2 with
      | row _ _ A c hm hA => exact ⟨_, .c (.int _ _), key _ _ n hd h1 (.inr ⟨⟨e, rfl⟩, _, _, rfl⟩)⟩
      | row0 _ A hm => exact ⟨_, .c (.int _ _), key _ _ 0 hd h1 (.inr ⟨⟨e, rfl⟩, _, _, rfl⟩)⟩
    · cases h
  · rename_i args ats
    split at h
    · rename_i x y hx
      obtain ⟨a, b, hab⟩ : ∃ a b, args.toList = [a, b] := by
        match args, hx with
        | ⟨[a, b]⟩, _ => exact ⟨a, b, rfl⟩
      have ha : args = #[a, b] := by rw [← Array.toList_inj]; exact hab
      subst ha
      simp at hx
      obtain ⟨rfl, rfl⟩ := hx
      obtain ⟨cv, h1, h2⟩ := min_sim (P := P) h (hρ a) (hρ b)
      exact ⟨cv, h1, fun w => by have := h2 w; simp only [Bool.false_eq_true, if_false, Builtin.min_] at this; simp [execOp, resolve, invoke, builtin, Builtin.min_] at this ⊢; rw [this]; rfl⟩
    · cases h
  · rename_i args ats
    split at h
    · rename_i x y hx
      obtain ⟨a, b, hab⟩ : ∃ a b, args.toList = [a, b] := by
        match args, hx with
        | ⟨[a, b]⟩, _ => exact ⟨a, b, rfl⟩
      have ha : args = #[a, b] := by rw [← Array.toList_inj]; exact hab
      subst ha
      simp at hx
      obtain ⟨rfl, rfl⟩ := hx
      obtain ⟨cv, h1, h2⟩ := min_sim (P := P) h (hρ a) (hρ b)
      exact ⟨cv, h1, fun w => by have := h2 w; simp only [if_true, Builtin.max_] at this; simp [execOp, resolve, invoke, builtin, Builtin.max_] at this ⊢; rw [this]; rfl⟩
    · cases h
  · cases h
end
end Go.Proofs.Ytokahibbkdbndaa
