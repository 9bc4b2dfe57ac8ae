/- recur.Between, walked. -/
import Derived.Test.YtfakibajjibjjaaGreatDoorZC
import Derived.Test.YtfakibajjibjjaaGreatDoorZ32
namespace Go.Proofs.YtfakibajjibjjaaGreatDoor
open Go.RowKit
set_option maxRecDepth 100000
noncomputable def betF (z:ZT) (s:DT) (r:RT) (a b:Int) (fin:Int→Option (List Int×(Int×Int))):Option (List Int×(Int×Int)) :=
 (pZval z).bind fun f=>bif f.1 != 0 then some ([],(f.1,-10)) else
 (pZinst z s).bind fun q=>bif q.1.2.1 != 0 then some ([],(q.1.2.1,-11)) else
 bif decide (3980<s.1) then some ([],(3,-11)) else
 (pRval r).bind fun g=>bif g.1 != 0 then some ([],g) else
 (q6f a).bind fun ta=>(q6f b).bind fun tb =>
 bif !ta||(!tb||decide (b<a)) then some ([],(3,-12)) else
 (pDinst s).bind fun b0=>fin b0.1
set_option maxHeartbeats 4000000 in
theorem bet_in (z:ZT) (s:DT) (r:RT) (a b:Int) (Z:ZMap) (s1 s2 s3:Value) (w:World) (hG:GW w) (hZ:∀ b o u,Z b o=some u→w.cell? ⟨b,o,none⟩=some u) (hr:Rep Z (fun _ _=>none) noM (.agg (rC r s1 s2 s3)) (rV r)) (l:List Int) (f:Int×Int) (h:betF z s r a b (finB z s r a b)=some (l,f)) :
    CallsIn Fence.wide 6 Tryz.prog 49 #[.agg (zC z),.agg (dC s),.agg (rC r s1 s2 s3),.int .i64 a,.int .i64 b] w (BetQ w l f):=by
  unfold betF at h
  have hh:=bindE h
  clear h
  obtain ⟨f1,hf1,h⟩:=hh
  refine callsIn_of_wp_marks Tryz.func49 rfl trivial ?_ rfl
  unfold zC dC rC
  simp only [Tryz.ntmps49,List.size_toArray,List.length_cons,List.length_nil,Nat.reduceAdd,Nat.reduceSub,Array.replicate_succ,Array.replicate_zero,List.push_toArray,List.append_toArray,List.nil_append,List.cons_append]
  have H:Aside _:=h
  clear h
  gi_wp2
  generalize hW6:((((((w.alloc _).alloc _).alloc _).alloc _).alloc _).alloc _)=W6
  have e6:((((((w.alloc (.cells (zC z) 77)).alloc (.cells (dC s) 81)).alloc (.cells (rC r s1 s2 s3) 84)).alloc (.cells #[.int .i64 a] 3)).alloc (.cells #[.int .i64 b] 3)).alloc (.cells #[.int .i64 0,.int .i64 0] 33))=W6:=hW6
  have hb6:Bel w W6:=by rw [←e6];exact ((((((Bel.refl w).alloc _).alloc _).alloc _).alloc _).alloc _).alloc _
  have s6:=zsix w (.cells (zC z) 77) (.cells (dC s) 81) (.cells (rC r s1 s2 s3) 84) (.cells #[.int .i64 a] 3) (.cells #[.int .i64 b] 3) (.cells #[.int .i64 0,.int .i64 0] 33)
  rw [e6] at s6
  clear hW6 e6
  obtain ⟨b0,b1,b2,b3,b4,b5⟩:=s6
  have hB:Bx w W6 _ _ _ _ _ _ _ _ _ a b:=⟨hb6,zgwb hG hb6,b0,b1,b2,b3,b4,b5,by omega⟩
  clear b0 b1 b2 b3 b4 b5 hb6
  generalize w.heap.size+1+1+1+1+1=p5 at hB ⊢
  generalize w.heap.size+1+1+1+1=p4 at hB ⊢
  generalize w.heap.size+1+1+1=p3 at hB ⊢
  generalize w.heap.size+1+1=p2 at hB ⊢
  generalize w.heap.size+1=p1 at hB ⊢
  generalize w.heap.size=p0 at hB ⊢
  refine ⟨trivial,(callsIn_wide.2 (c_zval hB.gw hf1)).mono ?_⟩
  rintro e w1 ⟨rfl,hb1⟩
  replace hB:=hB.later hb1
  clear hb1 hf1
  obtain ⟨m0,m1,m2,m3,m4,m5,m6,q0,q1,q2,q3,q4,q5⟩:=hB.cells
  unfold zC at m0
  unfold dC at m1
  unfold rC at m2
  gi_wp2
  generalize hW:(World.alloc w1 _)=w2
  have hb2:Bel w1 w2:=by rw [←hW];exact (Bel.refl _).alloc _
  have ef:∀ o,w2.cell? ⟨w1.heap.size,o,none⟩=(#[.int .i64 f1.1,.int .i64 f1.2]:Array Value)[o]?:=fun o=>by rw [←hW];exact q168 (q166 _ _ rfl)
  clear hW
  replace hB:=hB.later hb2
  refine ⟨trivial,(callsIn_wide.2 (q7v hB.gw f1.1 f1.2)).mono ?_⟩
  rintro e w3 ⟨rfl,hb3⟩
  replace ef:=fun o=>(hb3.cell o (q8u (o:=0) (ef 0))).trans (ef o)
  have qf:w1.heap.size<w3.heap.size:=q8u (o:=0) (ef 0)
  clear m0 m1 m2 m3 m4 m5 m6 q0 q1 q2 q3 q4 q5
  replace hB:=hB.later hb3
  clear hb2 hb3
  generalize w1.heap.size=pf at ef qf ⊢
  clear w1 w2
  have h:=H.out
  clear H
  cases hq:(f1.1 != 0) with
  | true =>
    rw [hq,cond_true] at h
    injection h with h
    injection h with h1 h2
    subst h1 h2
    obtain ⟨m0,m1,m2,m3,m4,m5,m6,q0,q1,q2,q3,q4,q5⟩:=hB.cells
    unfold zC at m0
    unfold dC at m1
    unfold rC at m2
    gi_wp2
    refine ⟨trivial,(callsIn_wide.2 (q7w hB.gw f1.1 (-10))).mono ?_⟩
    rintro e w4 ⟨rfl,hb4⟩
    replace hB:=hB.later hb4
    clear m0 m1 m2 m3 m4 m5 m6 q0 q1 q2 q3 q4 q5
    obtain ⟨m0,m1,m2,m3,m4,m5,m6,q0,q1,q2,q3,q4,q5⟩:=hB.cells
    unfold zC at m0
    unfold dC at m1
    unfold rC at m2
    gi_wp2
    exact q6w hB rfl rfl
  | false =>
    rw [hq,cond_false] at h
    have hh:=bindE h
    clear h
    obtain ⟨⟨⟨nv,f2⟩,l2⟩,hf2,h⟩:=hh
    have H:Aside _:=h
    clear h ef qf
    obtain ⟨m0,m1,m2,m3,m4,m5,m6,q0,q1,q2,q3,q4,q5⟩:=hB.cells
    unfold zC at m0
    unfold dC at m1
    unfold rC at m2
    gi_wp2
    refine ⟨trivial,(callsIn_wide.2 (q7x hB.gw hf2)).mono ?_⟩
    rintro e w1 ⟨v2,rfl,hb1,hv2⟩
    replace hB:=hB.later hb1
    clear hv2 hb1 hf2 m0 m1 m2 m3 m4 m5 m6 q0 q1 q2 q3 q4 q5 hq
    obtain ⟨m0,m1,m2,m3,m4,m5,m6,q0,q1,q2,q3,q4,q5⟩:=hB.cells
    unfold zC at m0
    unfold dC at m1
    unfold rC at m2
    gi_wp2
    generalize hW:(World.alloc w1 _)=w2
    have hb2:Bel w1 w2:=by rw [←hW];exact (Bel.refl _).alloc _
    have ef:∀ o,w2.cell? ⟨w1.heap.size,o,none⟩=(#[.int .i64 f2.1,.int .i64 f2.2]:Array Value)[o]?:=fun o=>by rw [←hW];exact q168 (q166 _ _ rfl)
    clear hW
    replace hB:=hB.later hb2
    refine ⟨trivial,(callsIn_wide.2 (q7v hB.gw f2.1 f2.2)).mono ?_⟩
    rintro e w3 ⟨rfl,hb3⟩
    replace ef:=fun o=>(hb3.cell o (q8u (o:=0) (ef 0))).trans (ef o)
    have qf:w1.heap.size<w3.heap.size:=q8u (o:=0) (ef 0)
    clear m0 m1 m2 m3 m4 m5 m6 q0 q1 q2 q3 q4 q5
    replace hB:=hB.later hb3
    clear hb2 hb3
    generalize w1.heap.size=pf at ef qf ⊢
    clear w1 w2
    have h:=H.out
    clear H
    cases hq:(f2.1 != 0) with
    | true =>
      simp only [hq,cond_true] at h
      injection h with h
      injection h with h1 h2
      subst h1 h2
      obtain ⟨m0,m1,m2,m3,m4,m5,m6,q0,q1,q2,q3,q4,q5⟩:=hB.cells
      unfold zC at m0
      unfold dC at m1
      unfold rC at m2
      gi_wp2
      refine ⟨trivial,(callsIn_wide.2 (q7w hB.gw f2.1 (-11))).mono ?_⟩
      rintro e w4 ⟨rfl,hb4⟩
      replace hB:=hB.later hb4
      clear m0 m1 m2 m3 m4 m5 m6 q0 q1 q2 q3 q4 q5
      obtain ⟨m0,m1,m2,m3,m4,m5,m6,q0,q1,q2,q3,q4,q5⟩:=hB.cells
      unfold zC at m0
      unfold dC at m1
      unfold rC at m2
      gi_wp2
      exact q6w hB rfl rfl
    | false =>
      simp only [hq,cond_false] at h
      clear ef qf hq
      cases hq:decide (3980<s.1) with
      | true =>
        rw [hq,cond_true] at h
        injection h with h
        injection h with h1 h2
        subst h1 h2
        have hy:3980<s.1:=of_decide_eq_true hq
        obtain ⟨m0,m1,m2,m3,m4,m5,m6,q0,q1,q2,q3,q4,q5⟩:=hB.cells
        unfold zC at m0
        unfold dC at m1
        unfold rC at m2
        gi_wp2
        refine ⟨trivial,(callsIn_wide.2 (q7w hB.gw 3 (-11))).mono ?_⟩
        rintro e w4 ⟨rfl,hb4⟩
        replace hB:=hB.later hb4
        clear m0 m1 m2 m3 m4 m5 m6 q0 q1 q2 q3 q4 q5
        obtain ⟨m0,m1,m2,m3,m4,m5,m6,q0,q1,q2,q3,q4,q5⟩:=hB.cells
        unfold zC at m0
        unfold dC at m1
        unfold rC at m2
        gi_wp2
        exact q6w hB rfl rfl
      | false =>
        rw [hq,cond_false] at h
        have hy:¬ 3980<s.1:=of_decide_eq_false hq
        have hh:=bindE h
        clear h
        obtain ⟨f3,hf3,h⟩:=hh
        have H:Aside _:=h
        clear h hq
        obtain ⟨m0,m1,m2,m3,m4,m5,m6,q0,q1,q2,q3,q4,q5⟩:=hB.cells
        unfold zC at m0
        unfold dC at m1
        unfold rC at m2
        gi_wp2
        refine ⟨trivial,(callsIn_wide.2 (c_rval hB.gw hf3 Z (fun b o u h=>(hB.bel.cell _ (q8u (hZ b o u h))).trans (hZ b o u h)) hr)).mono ?_⟩
        rintro e w1 ⟨rfl,hb1⟩
        replace hB:=hB.later hb1
        clear hb1 hf3 m0 m1 m2 m3 m4 m5 m6 q0 q1 q2 q3 q4 q5
        obtain ⟨m0,m1,m2,m3,m4,m5,m6,q0,q1,q2,q3,q4,q5⟩:=hB.cells
        unfold zC at m0
        unfold dC at m1
        unfold rC at m2
        gi_wp2
        generalize hW:(World.alloc w1 _)=w2
        have hb2:Bel w1 w2:=by rw [←hW];exact (Bel.refl _).alloc _
        have ef:∀ o,w2.cell? ⟨w1.heap.size,o,none⟩=(#[.int .i64 f3.1,.int .i64 f3.2]:Array Value)[o]?:=fun o=>by rw [←hW];exact q168 (q166 _ _ rfl)
        clear hW
        replace hB:=hB.later hb2
        refine ⟨trivial,(callsIn_wide.2 (q7v hB.gw f3.1 f3.2)).mono ?_⟩
        rintro e w3 ⟨rfl,hb3⟩
        replace ef:=fun o=>(hb3.cell o (q8u (o:=0) (ef 0))).trans (ef o)
        have qf:w1.heap.size<w3.heap.size:=q8u (o:=0) (ef 0)
        clear m0 m1 m2 m3 m4 m5 m6 q0 q1 q2 q3 q4 q5
        replace hB:=hB.later hb3
        clear hb2 hb3
        generalize w1.heap.size=pf at ef qf ⊢
        clear w1 w2
        have h:=H.out
        clear H
        cases hq:(f3.1 != 0) with
        | true =>
          rw [hq,cond_true] at h
          injection h with h
          injection h with h1 h2
          subst h1 h2
          obtain ⟨m0,m1,m2,m3,m4,m5,m6,q0,q1,q2,q3,q4,q5⟩:=hB.cells
          unfold zC at m0
          unfold dC at m1
          unfold rC at m2
          gi_wp2
          have hBo:=hB
          replace hB:=hB.later ((Bel.refl _).drew)
          have k5:=m5
          have k6:=m6
          clear m0 m1 m2 m3 m4 m5 m6 q0 q1 q2 q3 q4 q5
          have ef2:∀ o,w3.drew.cell? ⟨pf,o,none⟩=(#[.int .i64 f3.1,.int .i64 f3.2]:Array Value)[o]?:=ef
          have qf2:pf<w3.drew.heap.size:=qf
          obtain ⟨m0,m1,m2,m3,m4,m5,m6,q0,q1,q2,q3,q4,q5⟩:=hB.cells
          unfold zC at m0
          unfold dC at m1
          unfold rC at m2
          have hmo:=qsi
          gi_region_o
          gi_wp2
          exact q6w hB rfl rfl
        | false =>
          rw [hq,cond_false] at h
          clear ef qf hq
          have hh:=bindE h
          clear h
          obtain ⟨ta,hta,h⟩:=hh
          have hh:=bindE h
          clear h
          obtain ⟨tb,htb,h⟩:=hh
          have H:Aside _:=h
          clear h
          obtain ⟨m0,m1,m2,m3,m4,m5,m6,q0,q1,q2,q3,q4,q5⟩:=hB.cells
          unfold zC at m0
          unfold dC at m1
          unfold rC at m2
          gi_wp2
          refine ⟨trivial,(callsIn_wide.2 (c_time hB.gw hta)).mono ?_⟩
          rintro e w1 ⟨rfl,hb1⟩
          replace hB:=hB.later hb1
          clear hb1 hta m0 m1 m2 m3 m4 m5 m6 q0 q1 q2 q3 q4 q5
          have h:=H.out
          clear H
          cases ta with
          | false =>
            simp only [Bool.not_false,Bool.true_or,cond_true] at h
            injection h with h
            injection h with h1 h2
            subst h1 h2
            obtain ⟨m0,m1,m2,m3,m4,m5,m6,q0,q1,q2,q3,q4,q5⟩:=hB.cells
            unfold zC at m0
            unfold dC at m1
            unfold rC at m2
            gi_wp2
            refine ⟨trivial,?_⟩
            gi_wp2
            refine ⟨trivial,(callsIn_wide.2 (q7w hB.gw 3 (-12))).mono ?_⟩
            rintro e w4 ⟨rfl,hb4⟩
            replace hB:=hB.later hb4
            clear m0 m1 m2 m3 m4 m5 m6 q0 q1 q2 q3 q4 q5
            obtain ⟨m0,m1,m2,m3,m4,m5,m6,q0,q1,q2,q3,q4,q5⟩:=hB.cells
            unfold zC at m0
            unfold dC at m1
            unfold rC at m2
            gi_wp2
            exact q6w hB rfl rfl
          | true =>
            simp only [Bool.not_true,Bool.false_or] at h
            have H:Aside _:=h
            clear h
            obtain ⟨m0,m1,m2,m3,m4,m5,m6,q0,q1,q2,q3,q4,q5⟩:=hB.cells
            unfold zC at m0
            unfold dC at m1
            unfold rC at m2
            gi_wp2
            refine ⟨trivial,(callsIn_wide.2 (c_time hB.gw htb)).mono ?_⟩
            rintro e w1 ⟨rfl,hb1⟩
            replace hB:=hB.later hb1
            clear hb1 htb m0 m1 m2 m3 m4 m5 m6 q0 q1 q2 q3 q4 q5
            have h:=H.out
            clear H
            cases tb with
            | false =>
              simp only [Bool.not_false,Bool.true_or,cond_true] at h
              injection h with h
              injection h with h1 h2
              subst h1 h2
              obtain ⟨m0,m1,m2,m3,m4,m5,m6,q0,q1,q2,q3,q4,q5⟩:=hB.cells
              unfold zC at m0
              unfold dC at m1
              unfold rC at m2
              gi_wp2
              refine ⟨trivial,(callsIn_wide.2 (q7w hB.gw 3 (-12))).mono ?_⟩
              rintro e w4 ⟨rfl,hb4⟩
              replace hB:=hB.later hb4
              clear m0 m1 m2 m3 m4 m5 m6 q0 q1 q2 q3 q4 q5
              obtain ⟨m0,m1,m2,m3,m4,m5,m6,q0,q1,q2,q3,q4,q5⟩:=hB.cells
              unfold zC at m0
              unfold dC at m1
              unfold rC at m2
              gi_wp2
              exact q6w hB rfl rfl
            | true =>
              simp only [Bool.not_true,Bool.false_or] at h
              cases hq:decide (b<a) with
              | true =>
                rw [hq,cond_true] at h
                injection h with h
                injection h with h1 h2
                subst h1 h2
                have hba:b<a:=of_decide_eq_true hq
                obtain ⟨m0,m1,m2,m3,m4,m5,m6,q0,q1,q2,q3,q4,q5⟩:=hB.cells
                unfold zC at m0
                unfold dC at m1
                unfold rC at m2
                gi_wp2
                refine ⟨trivial,(callsIn_wide.2 (q7w hB.gw 3 (-12))).mono ?_⟩
                rintro e w4 ⟨rfl,hb4⟩
                replace hB:=hB.later hb4
                clear m0 m1 m2 m3 m4 m5 m6 q0 q1 q2 q3 q4 q5
                obtain ⟨m0,m1,m2,m3,m4,m5,m6,q0,q1,q2,q3,q4,q5⟩:=hB.cells
                unfold zC at m0
                unfold dC at m1
                unfold rC at m2
                gi_wp2
                exact q6w hB rfl rfl
              | false =>
                rw [hq,cond_false] at h
                have hba:¬ b<a:=of_decide_eq_false hq
                have hh:=bindE h
                clear h
                obtain ⟨⟨bg,f0⟩,hbg,h⟩:=hh
                have H:Aside (finB z s r a b bg=some (l,f)):=h
                clear h hq
                obtain ⟨m0,m1,m2,m3,m4,m5,m6,q0,q1,q2,q3,q4,q5⟩:=hB.cells
                unfold zC at m0
                unfold dC at m1
                unfold rC at m2
                gi_wp2
                generalize hW:(World.alloc w1 _)=w2
                have hb2:Bel w1 w2:=by rw [←hW];exact (Bel.refl _).alloc _
                have ho:w2.heap[w1.heap.size]?=some (.cells #[.slice none 0 0] 82):=by rw [←hW];exact q166 _ _ rfl
                have hpo:w.heap.size≤w1.heap.size:=hB.bel.size
                clear hW m0 m1 m2 m3 m4 m5 m6 q0 q1 q2 q3 q4 q5 hy hba
                replace hB:=hB.later hb2
                clear hb2
                generalize w1.heap.size=po at ho hpo ⊢
                refine ⟨trivial,(callsIn_wide.2 (qm4 z s r s1 s2 s3 _)).mono ?_⟩
                rintro e w3 ⟨rfl,hW3⟩
                have i0:w3.heap[w2.heap.size]?=some (.cells (zC z) 77):=by rw [hW3];exact q167 _ (q167 _ (q166 _ _ rfl))
                have i1:w3.heap[w2.heap.size+1]?=some (.cells (dC s) 81):=by rw [hW3];exact q167 _ (q166 _ _ (by simp))
                have i2:w3.heap[w2.heap.size+1+1]?=some (.cells (rC r s1 s2 s3) 84):=by rw [hW3];exact q166 _ _ (by simp)
                have hb3:Bel w2 w3:=by rw [hW3];exact (((Bel.refl _).alloc _).alloc _).alloc _
                clear hW3
                replace ho:=q71 ho hb3
                replace hB:=hB.later hb3
                clear hb3
                generalize w2.heap.size+1+1=q2 at i2 ⊢
                generalize w2.heap.size+1=q1 at i1 ⊢
                generalize w2.heap.size=q0 at i0 ⊢
                gi_wp2
                refine quj rfl (by decide) (gf:=127) (lb:=#[.pointer (some ⟨q1,0,none⟩),.pointer (some ⟨q2,0,none⟩),.pointer (some ⟨q0,0,none⟩)]) rfl trivial (enters_of Tryz.func127 (by kernel_rfl) rfl) ?_
                intro fn hfn
                show CallsIn Fence.wide 5 Tryz.prog 127 #[.func (.yield (w3.heap.size+1)) #[] #[],.pointer (some ⟨q1,0,none⟩),.pointer (some ⟨q2,0,none⟩),.pointer (some ⟨q0,0,none⟩)] _ _
                generalize hW1:(w3.alloc (.deferred (some []))).alloc _=W1
                have hK:W1.heap[w3.heap.size]?=some (.deferred (some [])):=by rw [←hW1];exact q167 _ (q166 _ _ rfl)
                have hL:=q166 (w3.alloc (.deferred (some []))) _ (k:=w3.heap.size+1) (by simp) |> (fun h=>(congrArg (fun W:World=>W.heap[w3.heap.size+1]?) hW1).symm.trans h)
                have hb4:Bel w3 W1:=by rw [←hW1];exact ((Bel.refl _).alloc _).alloc _
                clear hW1
                revert hL
                generalize hrec:recL fn _ _ _ _ _=rec
                intro hL
                have hDw:w.heap.size≤w3.heap.size:=hB.bel.size
                have hLw:w.heap.size≤w3.heap.size+1:=by omega
                replace ho:=q71 ho hb4
                replace i0:=q71 i0 hb4
                replace i1:=q71 i1 hb4
                replace i2:=q71 i2 hb4
                replace hB:=hB.later hb4
                clear hb4
                generalize w3.heap.size+1=L at hL hLw ⊢
                generalize w3.heap.size=D at hK hrec hDw ⊢
                have hBo:Bo w W1 L D (rec .ready none) p0 p1 p2 p3 p4 p5 q0 q1 q2 po W1.heap.size (zC z) (dC s) (rC r s1 s2 s3) a b (.slice none 0 0) (.slice none 0 0) [] :=
                  ⟨hL,hK,hB,i0,i1,i2,ho,⟨rfl,.inl ⟨rfl,rfl⟩⟩,Nat.le_refl _,⟨hB.bel.size,hpo,hLw⟩,zlt hL,zlt hK,zlt hB.b0,zlt hB.b1,zlt hB.b2,zlt hB.b3,zlt hB.b4,zlt hB.b5,zlt i0,zlt i1,zlt i2,zlt ho⟩
                have hZW:∀ W,Bel w W→∀ b o u,Z b o=some u→W.cell? ⟨b,o,none⟩=some u:=fun W hW b o u h=>(hW.cell _ (q8u (hZ b o u h))).trans (hZ b o u h)
                have hf:=H.out
                unfold finB at hf
                clear H
                obtain ⟨ts,hts,hf⟩:=bindE hf
                obtain ⟨kp,hkp,hf⟩:=bindE hf
                have hg:(decide (ts.length≤1000000)&&decide (r.2.2.2.2.2.2.2.length≤1000000))=true:=by
                  cases hg:(decide (ts.length≤1000000)&&decide (r.2.2.2.2.2.2.2.length≤1000000)) with
                  | true=>rfl
                  | false=>rw [hg] at hf;cases hf
                rw [hg,cond_true] at hf
                simp only [Bool.and_eq_true,decide_eq_true_eq] at hg
                obtain ⟨hl1,hl2⟩:=hg
                have H:Aside _:=hf
                clear hf
                obtain ⟨rx,ra⟩:=quy hr
                obtain ⟨ii,zi,hi0,hs0,hz0,hy0,hc0⟩:=intInfo
                clear hL hK hB i0 i1 i2 ho hpo hLw
                refine (ins_in L q1 q2 q0 z s r Z s1 s2 s3 bg f0 ts W1 hbg hts (fun acc W=>∃ k v,keepF r.2.2.2.2.2.2.1 acc=some k∧Bo w W L D (rec .ready none) p0 p1 p2 p3 p4 p5 q0 q1 q2 po W1.heap.size (zC z) (dC s) (rC r s1 s2 s3) a b v v k) ?_ ?_ ?_ ?_).mono ?_
                · rintro acc W ⟨k,v,hk,hB⟩
                  exact ⟨hB.bx.gw,fun o=>q168 hB.i0,fun o=>q168 hB.i1,fun o=>q168 hB.i2,hr,hZW W hB.bx.bel⟩
                · rintro acc W W' ⟨k,v,hk,hB⟩ hb
                  exact ⟨k,v,hk,hB.later hb⟩
                · exact ⟨[],_,rfl,hBo⟩
                · rintro acc t W m ⟨r2,hr2⟩ ⟨k,v,hk,hB⟩
                  obtain ⟨k',q,hk',hq,hk2⟩:=qn9 hkp hr2
                  rw [hk] at hk'
                  injection hk' with hk'
                  subst hk'
                  have hkl:k.length≤1000000:=by
                    have h1:=qna _ hk
                    have h2:=congrArg List.length hr2
                    simp at h2
                    omega
                  have HK:Aside (keepF r.2.2.2.2.2.2.1 (acc++[t])=some (bif q.2 then k else k++[t])):=hk2
                  clear hk hk2 hr2
                  have hL':=hB.lp
                  rw [←hrec] at hL'
                  refine q15i trivial hL' rfl ?_
                  rw [hrec]
                  gi_wp2_with (rw [Oper.semAt_eq _ _ _ (fun c h=>by cases h)];go_simp;try go_bits)
                  intro W2 hW2
                  have hB2:Bo w W2 L D (rec .busy none) p0 p1 p2 p3 p4 p5 q0 q1 q2 po W1.heap.size (zC z) (dC s) (rC r s1 s2 s3) a b v v k:=by rw [hW2];exact hB.put hG
                  clear hW2 hL'
                  have m2:∀ o,W2.cell? ⟨p2,o,none⟩=(rC r s1 s2 s3)[o]?:=fun o=>q168 hB2.bx.b2
                  have l2:p2<W2.heap.size:=zlt hB2.bx.b2
                  unfold rC at m2
                  clear hB
                  gi_wp2_with (rw [Oper.semAt_eq _ _ _ (fun c h=>by cases h)];go_simp;try go_bits)
                  refine ⟨trivial,(fun h=>by cases h),CallsIn.mono (show CallsIn (Fence.wide.inRound _) _ _ _ _ _ _ from callsIn_wide.2 (c_bs hB2.bx.gw hq Z (hZW W2 hB2.bx.bel) rx)) ?_⟩
                  rintro e w5 ⟨rfl,hb5⟩
                  have hB5:=hB2.later hb5
                  clear m2 l2 hB2 hb5 hq
                  cases hq2:q.2 with
                  | true =>
                    rw [hq2,cond_true] at HK
                    gi_wp2_with (rw [Oper.semAt_eq _ _ _ (fun c h=>by cases h)];go_simp;try go_bits)
                    first|exact ⟨hB5.lp,rfl,k,v,HK.out,hB5.put hG⟩|exact ⟨hB5.lp,rfl,k,HK.out,v,hB5.put hG⟩|trace_state
                  | false =>
                    rw [hq2,cond_false] at HK
                    have mo:∀ o,w5.cell? ⟨po,o,none⟩=(#[v]:Array Value)[o]?:=fun o=>q168 hB5.out
                    have fo:∀ o,w5.frozen? ⟨po,o,none⟩=false:=qio hB5.out
                    have lo:po<w5.heap.size:=zlt hB5.out
                    gi_wp2_with (first
                      | (gi_at_builtin
                         refine wpListIn_append_own _ rfl (.tmp 76) (.tmp 78) 82 rfl W1.heap.size 3 ii zi 1 8 Tryz.underlying82 hi0 hz0 hs0 hy0 hc0 (by decide) v k.length (k.map (Value.int .i64)) rfl (hB5.later ((Bel.refl _).alloc _)).own ⟨w5.heap.size,0,none⟩ 1 1 [.int .i64 t] rfl rfl q8w (by simp;rfl) (by unfold maxLen;omega) (by omega) (hB5.later ((Bel.refl _).alloc _)).ob ?_
                         intro v3 w6 ho3 hg3 _
                         obtain ⟨g3,c3,rfl⟩:∃ g3 c3,v3=.slice (some ⟨g3,0,none⟩) (k.length+1) c3:=by
                           rcases ho3.2 with ⟨_,h⟩|⟨g,cap,_,h,_⟩
                           · omega
                           · exact ⟨g,cap,h⟩
                         have hB6:=(hB5.later ((Bel.refl _).alloc _)).grown hG hg3 (k2:=k++[t]) (by simpa using ho3)
                         have mo6:∀ o,w6.cell? ⟨po,o,none⟩=(#[v]:Array Value)[o]?:=fun o=>q168 hB6.out
                         have fo6:∀ o,w6.frozen? ⟨po,o,none⟩=false:=qio hB6.out
                         have lo6:po<w6.heap.size:=zlt hB6.out)
                      | (rw [Oper.semAt_eq _ _ _ (fun c h=>by cases h)];go_simp;try go_bits))
                    have hB7:=hB6.setO hG (.slice (some ⟨g3,0,none⟩) (k.length+1) c3)
                    first|exact ⟨hB7.lp,rfl,k++[t],_,HK.out,hB7.put hG⟩|exact ⟨hB7.lp,rfl,k++[t],HK.out,_,hB7.put hG⟩|trace_state
                · rintro e W3 ⟨⟨vv,rfl⟩,k,v,hk,hB⟩
                  rw [hkp] at hk
                  injection hk with hk
                  subst hk
                  have hend:(Instr.endLoop L).run Tryz.prog W3=.ok none (W3.putObj L (.loop { rec .ready none with state:=.exhausted })):=by
                    have h:=run_endLoop (P:=Tryz.prog) hB.lp (by rw [←hrec];simp [recL])
                    have hp:(rec .ready none).pending=none:=by rw [←hrec];rfl
                    rw [h]
                    show Result.ok (rec .ready none).pending _=_
                    rw [hp]
                    first|done|rfl|(simp only [hp];done)
                  have hB4:Bo w (W3.putObj L (.loop { rec .ready none with state:=.exhausted })) L D { rec .ready none with state:=.exhausted } p0 p1 p2 p3 p4 p5 q0 q1 q2 po W1.heap.size (zC z) (dC s) (rC r s1 s2 s3) a b v v kp:=hB.put hG
                  generalize W3.putObj L (.loop { rec .ready none with state:=.exhausted })=W4 at hend hB4
                  refine ⟨none,W4,hend,?_⟩
                  have hkl:kp.length≤1000000:=Nat.le_trans (qna _ hkp) hl1
                  obtain ⟨v3,W5,hrun,ho5,hg5⟩:=q34 hB4.own hB4.ob (xs:=r.2.2.2.2.2.2.2) ra (hZW W4 hB4.bx.bel) hkl hl2
                  have HH:=H
                  generalize hk0:kp++r.2.2.2.2.2.2.2=k0 at ho5 HH
                  have hkl0:k0.length≤4000000:=by rw [←hk0];simp;omega
                  have hB5:=hB4.grown hG hg5 ho5
                  obtain ⟨A3,c3,rfl⟩:=qu1 ho5
                  have mo:∀ o,W4.cell? ⟨po,o,none⟩=(#[v]:Array Value)[o]?:=fun o=>q168 hB4.out
                  have m2:∀ o,W4.cell? ⟨p2,o,none⟩=(rC r s1 s2 s3)[o]?:=fun o=>q168 hB4.bx.b2
                  have l2:p2<W4.heap.size:=zlt hB4.bx.b2
                  have mo5:∀ o,W5.cell? ⟨po,o,none⟩=(#[v]:Array Value)[o]?:=fun o=>q168 hB5.out
                  have fo5:∀ o,W5.frozen? ⟨po,o,none⟩=false:=qio hB5.out
                  have lo5:po<W5.heap.size:=zlt hB5.out
                  have HRUN:Aside _:=hrun
                  clear hk0 hkl
                  clear hrun hkp hts hend hB ho5 hg5 hl1 H hrec hBo
                  unfold rC at m2
                  simp only
                  gi_wp2_with (gi_at_builtin;refine q159 rfl (.tmp 80) (.tmp 82) 82 82 rfl rfl rfl (HRUN.out) ?_)
                  have hB6:=hB5.setO hG (.slice A3 k0.length c3)
                  generalize (W5.setCell ⟨po,0,none⟩ (.slice A3 k0.length c3))=V6 at hB6 ⊢
                  clear mo m2 l2 mo5 fo5 lo5 hB4 hB5 HRUN
                  refine ⟨trivial,(callsIn_wide.2 (qcc hB6.own hB6.ob hkl0 ((q168 hB6.bx.b3).trans rfl) ((q168 hB6.bx.b4).trans rfl) hB6.lt.2.2.2.2.2.1 hB6.lt.2.2.2.2.2.2.1)).mono ?_⟩
                  rintro e V7 ⟨v7,rfl,ho7,hb7⟩
                  have hkl7:(k0.filter fun t=>!outB a b t).length≤4000000:=Nat.le_trans (List.length_filter_le _ _) hkl0
                  have HK7:Aside (Lib.compact ((k0.filter fun t=>!outB a b t).mergeSort leI)=l∧((0,0):Int×Int)=f):=by
                    have h1:=Option.some.inj HH.out
                    exact ⟨congrArg Prod.fst h1,congrArg Prod.snd h1⟩
                  clear HH hkl0
                  generalize (k0.filter fun t=>!outB a b t)=k7 at ho7 hkl7 HK7
                  have hB7:=hB6.below hG hb7 ho7
                  obtain ⟨A7,c7,rfl⟩:=qu1 ho7
                  clear hB6 hb7 ho7
                  have mo7:∀ o,V7.cell? ⟨po,o,none⟩=(#[.slice A3 k0.length c3]:Array Value)[o]?:=fun o=>q168 hB7.out
                  have fo7:∀ o,V7.frozen? ⟨po,o,none⟩=false:=qio hB7.out
                  have lo7:po<V7.heap.size:=zlt hB7.out
                  gi_wp2
                  have hB8:=hB7.setO hG (.slice A7 k7.length c7)
                  generalize (V7.setCell ⟨po,0,none⟩ (.slice A7 k7.length c7))=V8 at hB8 ⊢
                  clear mo7 fo7 lo7 hB7
                  refine ⟨trivial,(callsIn_wide.2 (q100 hB8.own hB8.ob hkl7)).mono ?_⟩
                  rintro e V9 ⟨rfl,ho9,hb9⟩
                  have hkl9:(k7.mergeSort leI).length≤4000000:=by rw [List.length_mergeSort];exact hkl7
                  have hB9:=hB8.below hG hb9 ho9
                  clear hB8 hb9 ho9 hkl7
                  have mo9:∀ o,V9.cell? ⟨po,o,none⟩=(#[.slice A7 k7.length c7]:Array Value)[o]?:=fun o=>q168 hB9.out
                  have lo9:po<V9.heap.size:=zlt hB9.out
                  gi_wp2
                  refine ⟨trivial,(callsIn_wide.2 (qao hB9.own hkl9)).mono ?_⟩
                  rintro e V10 ⟨v10,rfl,ho10,hb10⟩
                  have hB10:=hB9.below hG hb10 ho10
                  obtain ⟨HL,HF⟩:=HK7.out
                  subst HF
                  rw [HL] at ho10 hB10
                  obtain ⟨A10,c10,rfl⟩:=qu1 ho10
                  clear hB9 hb10 ho10 hkl9 HK7 mo9 lo9 HL
                  gi_wp2
                  refine ⟨trivial,(callsIn_wide.2 (c_none hB10.bx.gw)).mono ?_⟩
                  rintro e V11 ⟨rfl,hb11⟩
                  have hB11:=hB10.later hb11
                  clear hB10 hb11
                  obtain ⟨m0,m1,m2,m3,m4,m5,m6,n0,n1,n2,n3,n4,n5⟩:=hB11.bx.cells
                  clear m0 m1 m2 m3 m4 n0 n1 n2 n3 n4
                  gi_wp2
                  exact q6v hB11 rfl rfl hDw
end Go.Proofs.YtfakibajjibjjaaGreatDoor
