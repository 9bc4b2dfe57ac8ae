/- Law 37, in plain words. -/
import Derived.Test.YtjlkjiifkganoaaGreatZ31
import Derived.Test.YtjlkjiifkganoaaGreatZ01
import Derived.Test.YtjlkjiifkganoaaGreatChecked
import Derived.ProofKit
import Derived.OpenShut
import Derived.JoinedCond
import Derived.Deep.Slices
import Derived.Deep.Fields
import Derived.Lib.SmallJoins
import Derived.Test.YtjlkjiifkganoaaGreatRows
namespace Go.Proofs.YtjlkjiifkganoaaGreat
open Go.RowKit
set_option maxRecDepth 100000
section
attribute [local irreducible] gdE
theorem qhj (evs:List Ev) (zs:List Zo) (f t:Int) (n all:Nat) (i:Int) (b0 b3:List Pd) (b1 b2 e1 e2:Int) (he:e1≠0):Ok (qhx evs zs f t n all i b0 b1 b2 e1 e2 b3) fun r=>∃ i,r=((evs,(zs,(f,(t,(n,((),((),(all,(i,false))))))))),(b0,((b1,b2),((e1,e2),b3)))):=.via qhz (by
 unfold qi3
 have h0:(e1==0)=false:=by simpa using he
 rw [h0]
 refine qkk (fun _=>qkl (by first|rfl|exact EC.isL_encL _ _) (qkl (by first|rfl|exact EC.isL_encL _ _) (qkl (by first|rfl|exact EC.isL_encL _ _) (qkl (by first|rfl|exact EC.isL_encL _ _) (qkm ?_))))) fun _=>qkl (by first|rfl|exact EC.isL_encL _ _) (qkl (by first|rfl|exact EC.isL_encL _ _) (qkl (by first|rfl|exact EC.isL_encL _ _) (qkl (by first|rfl|exact EC.isL_encL _ _) (qkm ?_))))
 all_goals
  simp only [EC.decL_encL]
  exact ⟨_,rfl⟩)
theorem l15_ok (evs:List Ev) (zs:List Zo) (f t:Int) (n:Nat) (b0:List Pd) (b1 b2:Int) (hz:zs.length≤60) (hn:evs.length≤20) (hw:∀ x∈evs,x.Repeat_Weekdays.length≤9223372036854775807) (hf:-68719476736≤f) (hft:f≤t) (ht:t≤68719476736) :
  ∀ (g k:Nat) (acc:List Pd),k+g=evs.length→acc.length≤1801*k→Ok (qhx evs zs f t n acc.length k b0 b1 b2 0 0 acc) fun r=>∃ (i:Int) (a:List Pd),r=((evs,(zs,(f,(t,(n,((),((),(a.length,(i,false))))))))),(b0,((b1,b2),(evC zs f t k (evs.drop k),a))))∧((evC zs f t k (evs.drop k)).1=0→a=acc++evA zs f t (evs.drop k)):=by
 intro g
 induction g with
 |zero =>
  intro k acc hk ha
  refine .via qhz ?_
  unfold qi3
  rw [show decide ((k:Int)<((qam.encL evs).length:Int))=false by simp [EC.encL_length];omega]
  refine qkl (by first|rfl|exact EC.isL_encL _ _) (qkl (by first|rfl|exact EC.isL_encL _ _) (qkl (by first|rfl|exact EC.isL_encL _ _) (qkl (by first|rfl|exact EC.isL_encL _ _) (qkm ?_))))
  rw [List.drop_eq_nil_of_le (by omega),evC]
  simp only [EC.decL_encL]
  exact ⟨_,acc,rfl,fun _=>by simp [evA]⟩
 |succ g ih =>
  intro k acc hk ha
  have hlt:k<evs.length:=by omega
  have hx:=hw _ (List.getElem_mem hlt)
  refine .via qhz ?_
  unfold qi3
  rw [show decide ((k:Int)<((qam.encL evs).length:Int))=true by simp [EC.encL_length];omega]
  refine qkl (by first|rfl|exact EC.isL_encL _ _) (qkl (by first|rfl|exact EC.isL_encL _ _) (qkl (by first|rfl|exact EC.isL_encL _ _) (qkl (by first|rfl|exact EC.isL_encL _ _) ?_)))
  simp only [EC.decL_encL,EC.encL_length]
  rw [qy5 (x:=(zs.length:Int) - 1) (by omega) (by omega),qa0 hlt,evC]
  refine qkj (l19_ok evs zs f t n acc.length k b0 acc b1 b2 0 0 hz hlt zs.length (-1) (Nat.le_refl _) (by rw [List.drop_length];rfl)) ?_
  rintro _ rfl
  dsimp only
  rw [qy6 (n:=20) (by omega) (by omega)]
  have hIx:decide ((0:Int)≤(k:Int))=true:=by simp
  have hEx:(decide (((k:Int)).toNat<evs.length)&&isE [.str,.int .i64,.int .i64,.str,.str,.str,.sl,.str,.int .i64,.int .i64,.int .i64,.int .i64,.int .i64,.int .i64,.int .i64,.int .i64,.int .i64,.int .i64,.int .i64,.int .i64,.bool,.sl,.sl,.sl] 0 ((qam.encL evs).getD ((k:Int)).toNat []))=true:=by
   rw [qgx];simp only [Bool.and_eq_true,decide_eq_true_eq,Int.toNat_natCast];omega
  refine qkk (fun h0=>qki (at_s _ _) ?_) fun h0=>?_
  ·simp at h0
   have hev:evP zs evs[k] f t=(6,[]):=by unfold evP;rw [if_pos h0]
   refine qkl (by first|rfl|exact EC.isL_encL _ _) (qkl (by first|rfl|exact EC.isL_encL _ _) (qkl (by first|rfl|exact EC.isL_encL _ _) (qkl (by first|rfl|exact EC.isL_encL _ _) ?_)))
   rw [hev,if_neg (by decide)]
   refine (qhj _ _ _ _ _ _ _ _ _ _ _ _ _ (by simp)).mono ?_
   rintro r ⟨i,rfl⟩
   exact ⟨i,acc,rfl,fun h=>absurd h (by simp)⟩
  simp at h0
  refine qkl hIx (qkl hEx (qki (in_s _ _ _) ?_))
  simp only [q2q,Int.toNat_natCast,qfo hlt]
  refine qkk (fun h1=>qki (at_s _ _) ?_) fun h1=>?_
  ·have h1':evs[k].Length<0∨1000000<evs[k].Length:=by
    simp [inB] at h1
    omega
   have hev:evP zs evs[k] f t=(3,[]):=by unfold evP;rw [if_neg (by omega),if_pos h1']
   refine qkl (by first|rfl|exact EC.isL_encL _ _) (qkl (by first|rfl|exact EC.isL_encL _ _) (qkl (by first|rfl|exact EC.isL_encL _ _) (qkl (by first|rfl|exact EC.isL_encL _ _) ?_)))
   rw [hev,if_neg (by decide)]
   refine (qhj _ _ _ _ _ _ _ _ _ _ _ _ _ (by simp)).mono ?_
   rintro r ⟨i,rfl⟩
   exact ⟨i,acc,rfl,fun h=>absurd h (by simp)⟩
  have h1':0≤evs[k].Length∧evs[k].Length≤1000000:=by
   simp [inB] at h1
   omega
  have hzt:(gidx (inZ evs[k]) 0 zs).toNat<zs.length:=by
   rcases qfq (inZ evs[k]) zs 0 with ⟨e,_⟩|⟨i,hi,e,_⟩
   ·omega
   ·rw [e];simpa using hi
  refine qkl hIx (qkl hEx (qkl (by simpa using h0) (qkl (by rw [qgw];simp only [Bool.and_eq_true,decide_eq_true_eq];exact ⟨hzt,hzt⟩) (qkl hIx (qkl hEx (qkl hIx (qkl hEx ?_)))))))
  simp only [q35,q36,q2l,q2m,q2n,q2o,q2p,q2r,q2s,q2t,q2u,q2w,q2x,q2y,q2z,Int.toNat_natCast,qfo hlt]
  refine qkl (by first|rfl|exact EC.isL_encL _ _) (qkl (by first|rfl|exact EC.isL_encL _ _) (qkl (by first|rfl|exact EC.isL_encL _ _) ?_))
  simp only [EC.decL_encL]
  rw [zt_at]
  have hw2:IntKind.i64.wrap (60*evs[k].Length)=60*evs[k].Length:=qy5 (by omega) (by omega)
  have hw1:IntKind.i64.wrap (f - 60*evs[k].Length)=f - 60*evs[k].Length:=qy5 (by omega) (by omega)
  simp only [hw2,hw1,if_true]
  obtain ⟨hB,hP⟩:=q59 zs evs[k] f t hx
  refine qki hB ?_
  have hev:evP zs evs[k] f t=((betV zs evs[k] f t).2.1,if evs[k].Method=4 then [] else (betV zs evs[k] f t).1):=by
   unfold evP
   rw [if_neg (by omega),if_neg (by omega)]
  rw [hev]
  refine qkk (fun h3=>qki (at_s _ _) ?_) fun h3=>?_
  ·have h3':(betV zs evs[k] f t).2.1≠0:=by simpa using h3
   have hnil:=hP.1 h3'
   rw [if_neg h3',hnil]
   refine qkl (by first|rfl|exact EC.isL_encL _ _) (qkl (by first|rfl|exact EC.isL_encL _ _) (qkl (by first|rfl|exact EC.isL_encL _ _) (qkl (by first|rfl|exact EC.isL_encL _ _) (qkl (by first|rfl|exact EC.isL_encL _ _) ?_))))
   simp only [EC.decL_encL]
   refine qkj (l32_ok evs zs f t n k (60*evs[k].Length) [] b0 b1 b2 _ _ hlt (by simp) (by omega) (by simp) 0 0 acc rfl (by omega)) ?_
   rintro _ ⟨j2,rfl⟩
   refine qkl (by first|rfl|exact EC.isL_encL _ _) (qkl (by first|rfl|exact EC.isL_encL _ _) (qkl (by first|rfl|exact EC.isL_encL _ _) (qkl (by first|rfl|exact EC.isL_encL _ _) ?_)))
   simp only [EC.decL_encL,List.drop_nil,List.map_nil,ite_self,List.append_nil]
   refine (qhj _ _ _ _ _ _ _ _ _ _ _ _ _ h3').mono ?_
   rintro r ⟨i,rfl⟩
   exact ⟨i,acc,rfl,fun h=>absurd h h3'⟩
  ·have h3':(betV zs evs[k] f t).2.1=0:=by simpa using h3
   rw [if_pos h3']
   refine qkl (by first|rfl|exact EC.isL_encL _ _) (qkl (by first|rfl|exact EC.isL_encL _ _) (qkl (by first|rfl|exact EC.isL_encL _ _) (qkl (by first|rfl|exact EC.isL_encL _ _) (qkl (by first|rfl|exact EC.isL_encL _ _) ?_))))
   have hb:∀ a∈(betV zs evs[k] f t).1,-68719476736≤a∧a≤68719476736:=fun a ha=>by
    have h1:=hP.2.1 a ha
    have h2:=hP.2.2.2 h3'
    omega
   refine qkj (l32_ok evs zs f t n k (60*evs[k].Length) (betV zs evs[k] f t).1 b0 b1 b2 _ _ hlt hP.2.2.1 (by omega) hb (betV zs evs[k] f t).1.length 0 acc (by omega) (by omega)) ?_
   rintro _ ⟨j2,rfl⟩
   refine qkl (by first|rfl|exact EC.isL_encL _ _) (qkl (by first|rfl|exact EC.isL_encL _ _) (qkl (by first|rfl|exact EC.isL_encL _ _) (qkl (by first|rfl|exact EC.isL_encL _ _) ?_)))
   simp only [EC.decL_encL,List.drop_zero]
   have hl2:=hP.2.2.1
   have hA:(if evs[k].Method=4 then [] else (betV zs evs[k] f t).1.map fun a=>(⟨a,a+60*evs[k].Length⟩:Pd))=(evP zs evs[k] f t).2.map fun a=>(⟨a,a+60*evs[k].Length⟩:Pd):=by
    rw [hev]
    split <;> rfl
   have hlen:=qbj zs evs[k] f t hx
   rw [hA,qy6 (n:=20) (by omega) (by omega)]
   refine (ih (k+1) (acc++(evP zs evs[k] f t).2.map fun a=>(⟨a,a+60*evs[k].Length⟩:Pd)) (by omega) (by simp only [List.length_append,List.length_map];omega)).mono ?_
   rintro r ⟨i,a,rfl,ha2⟩
   refine ⟨i,a,rfl,fun h=>?_⟩
   rw [ha2 h,evA,List.append_assoc]
end
end Go.Proofs.YtjlkjiifkganoaaGreat
namespace Go.Proofs.YtjlkjiifkganoaaGreat
open Go.RowKit
set_option maxRecDepth 100000
section
attribute [local irreducible] gdE
theorem qy9:∀ (l:List Zo) (k:Nat),(zF k l).1=0→zF k l=(0,0)
 |[],_,_=>rfl
 |z::l,k,h=>by
  unfold zF at h ⊢
  split at h
  ·rename_i h0
   rw [if_pos h0]
   exact qy9 l (k+1) h
  ·rename_i h0
   exact absurd h h0
theorem q7o (f t L a x:Int):((clipP f t L a).From≤x∧x<(clipP f t L a).To) ↔ (f≤x∧x<t)∧(a≤x∧x<a+60*L):=by
 unfold clipP
 dsimp only
 split <;> split <;> omega
theorem ql (g:Int→Pd) (x:Int):∀ l:List Int,Inn (l.map g) x ↔ ∃ a∈l,(g a).From≤x∧x<(g a).To
 |[]=>by simp [qm]
 |a::l=>by rw [List.map_cons,qj,ql g x l];simp
theorem ev_in (zs:List Zo) (f t x:Int):∀ l:List Ev,Inn (evL zs f t l) x ↔ (f≤x∧x<t)∧Inn (evA zs f t l) x
 |[]=>by simp [evL,evA,qm]
 |e::l=>by
  rw [evL,evA,qi,qi,ev_in zs f t x l,ql,ql]
  simp only [q7o]
  constructor
  ·rintro (⟨a,ha,h1,h2⟩|⟨h1,h2⟩)
   ·exact ⟨h1,.inl ⟨a,ha,h2⟩⟩
   ·exact ⟨h1,.inr h2⟩
  ·rintro ⟨h1,⟨a,ha,h2⟩|h2⟩
   ·exact .inl ⟨a,ha,h1,h2⟩
   ·exact .inr ⟨h1,h2⟩
theorem qxd (zs:List Zo) (f t:Int) (hft:f≤t) (l:List Ev):unionU (evL zs f t l)=withinU (evA zs f t l) f t true:=by
 refine NF_ext (qwz _).1 (qxy hft true).1 fun x=>?_
 rw [(qwz _).2,(qxy hft true).2,ev_in]
 simp only [iff_true,and_assoc]
def flt0 (evs:List Ev) (zs:List Zo) (f t:Int):Int×Int:=if 20<evs.length∨60<zs.length then (2,-1) else spanFault f t
noncomputable def flt1 (evs:List Ev) (zs:List Zo) (f t:Int):Int×Int:=if (flt0 evs zs f t).1=0 then zF 0 zs else flt0 evs zs f t
noncomputable def flt2 (evs:List Ev) (zs:List Zo) (f t:Int):Int×Int:=if (flt1 evs zs f t).1=0 then evC zs f t 0 evs else flt1 evs zs f t
theorem qcm (evs:List Ev) (zs:List Zo) (f t:Int):fbR evs zs f t=if (flt2 evs zs f t).1=0 then ((0,0),unionU (evL zs f t evs)) else (flt2 evs zs f t,[]):=by
 unfold fbR flt2 flt1 flt0
 by_cases h1:20<evs.length∨60<zs.length
 ·simp [h1]
 ·simp only [h1,if_false]
  by_cases h2:(spanFault f t).1=0
  ·simp only [h2,if_true,ne_eq,not_true_eq_false,if_false]
   by_cases h3:(zF 0 zs).1=0
   ·simp only [h3,if_true,not_true_eq_false,if_false]
    by_cases h4:(evC zs f t 0 evs).1=0 <;> simp [h4]
   ·simp [h3]
  ·simp [h2]
theorem qd9 {evs:List Ev} {zs:List Zo} {f t:Int} (h:(flt0 evs zs f t).1=0):flt0 evs zs f t=(0,0)∧evs.length≤20∧zs.length≤60∧-68719476736≤f∧f≤t∧t≤68719476736:=by
 unfold flt0 at h ⊢
 split at h
 ·exact absurd h (by decide)
 ·rename_i h1
  rw [if_neg h1]
  obtain ⟨a,b,c,d⟩:=qt6 h
  exact ⟨d,by omega,by omega,a,b,c⟩
theorem l8_any (evs:List Ev) (zs:List Zo) (f t:Int) (n:Nat) (b0:List Pd) (b1 b2:Int):Ok (qii evs zs f t n 0 b0 b1 b2 (flt0 evs zs f t).1 (flt0 evs zs f t).2) fun r=>∃ i,r=((evs,(zs,(f,(t,(n,((),((),(i,false)))))))),(b0,((b1,b2),flt1 evs zs f t))):=by
 unfold flt1
 by_cases h:(flt0 evs zs f t).1=0
 ·obtain ⟨e,_,hz,_⟩:=qd9 h
  rw [if_pos h,e]
  have:=l8_ok evs zs f t n b0 b1 b2 hz zs.length 0 (by omega)
  rw [List.drop_zero] at this
  exact this
 ·rw [if_neg h]
  exact qhk _ _ _ _ _ _ _ _ _ _ _ h
theorem qhi (evs:List Ev) (zs:List Zo) (f t:Int) (n:Nat) (b0:List Pd) (b1 b2:Int) (hw:∀ x∈evs,x.Repeat_Weekdays.length≤9223372036854775807):Ok (qhx evs zs f t n 0 0 b0 b1 b2 (flt1 evs zs f t).1 (flt1 evs zs f t).2 []) fun r=>∃ (i:Int) (a:List Pd),r=((evs,(zs,(f,(t,(n,((),((),(a.length,(i,false))))))))),(b0,((b1,b2),(flt2 evs zs f t,a))))∧((flt2 evs zs f t).1=0→a=evA zs f t evs):=by
 unfold flt2
 by_cases h:(flt1 evs zs f t).1=0
 ·have h0:(flt0 evs zs f t).1=0:=by
   unfold flt1 at h
   split at h
   ·assumption
   ·exact h
  obtain ⟨_,hn,hz,hf,hft,ht⟩:=qd9 h0
  have e:flt1 evs zs f t=(0,0):=by
   unfold flt1 at h ⊢
   rw [if_pos h0] at h ⊢
   exact qy9 _ _ h
  rw [if_pos h,e]
  have:=l15_ok evs zs f t n b0 b1 b2 hz hn hw hf hft ht evs.length 0 [] (by omega) (by simp)
  rw [List.drop_zero,List.nil_append] at this
  exact this
 ·rw [if_neg h]
  refine (qhj evs zs f t n 0 0 b0 [] b1 b2 _ _ h).mono ?_
  rintro r ⟨i,rfl⟩
  exact ⟨i,[],rfl,fun h2=>absurd h2 h⟩
theorem qda {evs:List Ev} {zs:List Zo} {f t:Int} (h:(flt2 evs zs f t).1=0):(flt0 evs zs f t).1=0:=by
 unfold flt2 at h
 split at h
 ·rename_i h1
  unfold flt1 at h1
  split at h1
  ·assumption
  ·exact h1
 ·rename_i h1
  exact absurd h h1
theorem qd7 {evs:List Ev} {zs:List Zo} {f t:Int} (h:20<evs.length∨60<zs.length):flt0 evs zs f t=(2,-1):=if_pos h
theorem qd8 {evs:List Ev} {zs:List Zo} {f t:Int} (h:¬ (20<evs.length∨60<zs.length)):flt0 evs zs f t=spanFault f t:=if_neg h
attribute [local irreducible] flt0 flt1 flt2 fbR evL evA unionU withinU
set_option maxHeartbeats 2000000 in
theorem qit (evs:List Ev) (zs:List Zo) (f t:Int) (hw:∀ x∈evs,x.Repeat_Weekdays.length≤9223372036854775807):qis evs zs f t=some true:=by
 have h:Ok (qis evs zs f t) fun r=>r=true:=.via qhw (by
  unfold qiu
  refine qkl (by first|rfl|exact EC.isL_encL _ _) (qkl (by first|rfl|exact EC.isL_encL _ _) ?_)
  simp only [EC.encL_length,EC.decL_encL]
  refine qki (qcl evs zs f t hw) ?_
  by_cases hs:20<evs.length∨60<zs.length
  ·have e0:flt0 evs zs f t=(2,-1):=qd7 hs
   have hat:qln 2 (-1)=some (flt0 evs zs f t):=by rw [e0];exact at_s _ _
   have h3:((flt0 evs zs f t).1==0)=false:=by rw [e0];rfl
   refine qkk (fun h1=>qkk (fun h2=>qki hat ?_) fun h2=>?_) fun h1=>qki hat ?_
   ·rw [h3]
    refine qkk (fun h=>absurd h (by simp)) fun _=>?_
    refine qkl (by first|rfl|exact EC.isL_encL _ _) (qkl (by first|rfl|exact EC.isL_encL _ _) (qkl (by first|rfl|exact EC.isL_encL _ _) ?_))
    refine qkj (l8_any evs zs f t _ _ _ _) ?_
    rintro _ ⟨i8,rfl⟩
    refine qkl (by first|rfl|exact EC.isL_encL _ _) (qkl (by first|rfl|exact EC.isL_encL _ _) (qkl (by first|rfl|exact EC.isL_encL _ _) ?_))
    simp only [EC.decL_encL]
    refine qkj (qhi evs zs f t _ _ _ _ hw) ?_
    rintro _ ⟨i15,a15,rfl,ha15⟩
    dsimp only
    by_cases h:(flt2 evs zs f t).1=0
    ·have hfb:fbR evs zs f t=((0,0),unionU (evL zs f t evs)):=by rw [qcm,if_pos h]
     obtain ⟨_,hn,hz,hf,hft,ht⟩:=qd9 (qda h)
     have hlen:=qbe zs f t evs hw
     have hlen2:=qbi zs f t evs hw
     have hlen3:=qwy (evL zs f t evs)
     have ha:=ha15 h
     subst ha
     rw [hfb,h]
     refine qkk (fun h2=>absurd h2 (by simp)) fun _=>?_
     refine qkk (fun _=>qkk (fun _=>qki qxe (qkm rfl)) fun h2=>absurd h2 (by simp)) fun h60=>qkk (fun _=>?_) fun h2=>absurd h2 (by simp)
     refine qkl (by first|rfl|exact EC.isL_encL _ _) (qki (qy0 _ f t true (by omega) hf hft ht) (qkl (by first|rfl|exact EC.isL_encL _ _) (qkl (by first|rfl|exact EC.isL_encL _ _) (qki (same_s _ _ (by simp only [EC.decL_encL];omega)) ?_))))
     simp only [EC.decL_encL]
     rw [qxd zs f t hft,qqk]
     exact qkk (fun _=>qki qxe (qkm rfl)) fun h2=>absurd h2 (by simp)
    ·have hfb:fbR evs zs f t=(flt2 evs zs f t,[]):=by rw [qcm,if_neg h]
     rw [hfb]
     refine qkk (fun _=>?_) fun h2=>absurd h2 (by simpa using h)
     refine qkk (fun _=>qkk (fun _=>qki qxe (qkm rfl)) fun h2=>absurd h2 (by simp)) fun h2=>absurd h2 (by simp)
   ·simp at h1 h2
    omega
   ·rw [h3]
    refine qkk (fun h=>absurd h (by simp)) fun _=>?_
    refine qkl (by first|rfl|exact EC.isL_encL _ _) (qkl (by first|rfl|exact EC.isL_encL _ _) (qkl (by first|rfl|exact EC.isL_encL _ _) ?_))
    refine qkj (l8_any evs zs f t _ _ _ _) ?_
    rintro _ ⟨i8,rfl⟩
    refine qkl (by first|rfl|exact EC.isL_encL _ _) (qkl (by first|rfl|exact EC.isL_encL _ _) (qkl (by first|rfl|exact EC.isL_encL _ _) ?_))
    simp only [EC.decL_encL]
    refine qkj (qhi evs zs f t _ _ _ _ hw) ?_
    rintro _ ⟨i15,a15,rfl,ha15⟩
    dsimp only
    by_cases h:(flt2 evs zs f t).1=0
    ·have hfb:fbR evs zs f t=((0,0),unionU (evL zs f t evs)):=by rw [qcm,if_pos h]
     obtain ⟨_,hn,hz,hf,hft,ht⟩:=qd9 (qda h)
     have hlen:=qbe zs f t evs hw
     have hlen2:=qbi zs f t evs hw
     have hlen3:=qwy (evL zs f t evs)
     have ha:=ha15 h
     subst ha
     rw [hfb,h]
     refine qkk (fun h2=>absurd h2 (by simp)) fun _=>?_
     refine qkk (fun _=>qkk (fun _=>qki qxe (qkm rfl)) fun h2=>absurd h2 (by simp)) fun h60=>qkk (fun _=>?_) fun h2=>absurd h2 (by simp)
     refine qkl (by first|rfl|exact EC.isL_encL _ _) (qki (qy0 _ f t true (by omega) hf hft ht) (qkl (by first|rfl|exact EC.isL_encL _ _) (qkl (by first|rfl|exact EC.isL_encL _ _) (qki (same_s _ _ (by simp only [EC.decL_encL];omega)) ?_))))
     simp only [EC.decL_encL]
     rw [qxd zs f t hft,qqk]
     exact qkk (fun _=>qki qxe (qkm rfl)) fun h2=>absurd h2 (by simp)
    ·have hfb:fbR evs zs f t=(flt2 evs zs f t,[]):=by rw [qcm,if_neg h]
     rw [hfb]
     refine qkk (fun _=>?_) fun h2=>absurd h2 (by simpa using h)
     refine qkk (fun _=>qkk (fun _=>qki qxe (qkm rfl)) fun h2=>absurd h2 (by simp)) fun h2=>absurd h2 (by simp)
  ·have hat:qmx f t=some (flt0 evs zs f t):=by rw [qd8 hs];exact qs2 f t
   refine qkk (fun h1=>qkk (fun h2=>absurd h2 (by simp;omega)) fun h2=>qki hat ?_) fun h1=>absurd h1 (by simp;omega)
   refine qkl (by first|rfl|exact EC.isL_encL _ _) (qkl (by first|rfl|exact EC.isL_encL _ _) (qkl (by first|rfl|exact EC.isL_encL _ _) ?_))
   refine qkj (l8_any evs zs f t _ _ _ _) ?_
   rintro _ ⟨i8,rfl⟩
   refine qkl (by first|rfl|exact EC.isL_encL _ _) (qkl (by first|rfl|exact EC.isL_encL _ _) (qkl (by first|rfl|exact EC.isL_encL _ _) ?_))
   simp only [EC.decL_encL]
   refine qkj (qhi evs zs f t _ _ _ _ hw) ?_
   rintro _ ⟨i15,a15,rfl,ha15⟩
   dsimp only
   by_cases h:(flt2 evs zs f t).1=0
   ·have hfb:fbR evs zs f t=((0,0),unionU (evL zs f t evs)):=by rw [qcm,if_pos h]
    obtain ⟨_,hn,hz,hf,hft,ht⟩:=qd9 (qda h)
    have hlen:=qbe zs f t evs hw
    have hlen2:=qbi zs f t evs hw
    have hlen3:=qwy (evL zs f t evs)
    have ha:=ha15 h
    subst ha
    rw [hfb,h]
    refine qkk (fun h2=>absurd h2 (by simp)) fun _=>?_
    refine qkk (fun _=>qkk (fun _=>qki qxe (qkm rfl)) fun h2=>absurd h2 (by simp)) fun h60=>qkk (fun _=>?_) fun h2=>absurd h2 (by simp)
    refine qkl (by first|rfl|exact EC.isL_encL _ _) (qki (qy0 _ f t true (by omega) hf hft ht) (qkl (by first|rfl|exact EC.isL_encL _ _) (qkl (by first|rfl|exact EC.isL_encL _ _) (qki (same_s _ _ (by simp only [EC.decL_encL];omega)) ?_))))
    simp only [EC.decL_encL]
    rw [qxd zs f t hft,qqk]
    exact qkk (fun _=>qki qxe (qkm rfl)) fun h2=>absurd h2 (by simp)
   ·have hfb:fbR evs zs f t=(flt2 evs zs f t,[]):=by rw [qcm,if_neg h]
    rw [hfb]
    refine qkk (fun _=>?_) fun h2=>absurd h2 (by simpa using h)
    refine qkk (fun _=>qkk (fun _=>qki qxe (qkm rfl)) fun h2=>absurd h2 (by simp)) fun h2=>absurd h2 (by simp))
 obtain ⟨r,e,rfl⟩:=h
 exact e
end
end Go.Proofs.YtjlkjiifkganoaaGreat
namespace Go.Proofs.YtjlkjiifkganoaaGreat
open Go.ChangeShapes Go.WideShapes Go.ChangeAt Go.RowKit Go.Deep
section
variable {H:Type} {enc:TypeId×Value→H} {P:Program}
theorem qvy (hl:laidOutB P=true) {W W':World} (hb:Bel W W'):∀ {ts:List TypeId} {vs:List Value} {ds:List (DataW H)} {ps:List MemPlace},ts.all (fun t=>P.readableRec t&&decide (t<P.types.size))=true →
  DataW.TrodAll enc P W 0 (fun _=>true) true ts vs ds ps→(∀ x∈ps,x.block<W.heap.size)→DataW.TrodAll enc P W' 0 (fun b=>decide (b<W.heap.size)) true ts vs ds ps
 |[],[],[],_,_,h,_=>h
 |[],[],_::_,_,_,h,_=>h.elim
 |[],_::_,_,_,_,h,_=>h.elim
 |_::_,[],_,_,_,h,_=>h.elim
 |_::_,_::_,[],_,_,h,_=>h.elim
 |t::ts,v::vs,d::ds,ps,hr,h,hlt=>by
  obtain ⟨p,q,h1,h2,rfl⟩:=h
  simp only [List.all_cons,Bool.and_eq_true,decide_eq_true_eq] at hr
  exact ⟨p,q,Below.trod hl hr.1.1 hr.1.2 h1 hb (fun x hx=>hlt x (List.mem_append_left _ hx)),qvy hl hb hr.2 h2 (fun x hx=>hlt x (List.mem_append_right _ hx)),rfl⟩
theorem qiw {fn:Func} {s:ChangeSpec} {W W':World} {args:Array Value} {ds gs:List (DataW H)} {before:List MemPlace} {tb:TypeId} (hl:laidOutB P=true)
  (hr:fn.params.toList.all (fun t=>P.readableRec t&&decide (t<P.types.size))=true) (hrt:fn.resultTypes=#[tb]) (htb:P.underlying tb=some .bool) (hvars:s.vars=[])
  (hfn:s.fn H ds={ results:=[.lit (.bool true)],args:=ds })
  (hW:DataW.Whole enc P fn.params.toList s.vars false W args.toList ds gs before) (hb:Bel W W'):s.post enc P fn false true false false W args (.bool true) W':=by
 have hW':=hW
 have hlt:∀ x∈before,x.block<W.heap.size:=fun x hx=>hW.lt x hx
 obtain ⟨p,q,hA,hV,rfl,hfz,hnd⟩:=hW
 rw [hvars] at hV
 obtain ⟨rfl,rfl⟩:=trodVars_none hV
 have e:s.fn H (ds++[])={ results:=[.lit (.bool true)],args:=ds }:=by rw [List.append_nil];exact hfn
 refine ⟨ds,[],p++[],[],p,[],hW',?_,?_,?_,hb.frame _,fun h=>by cases h⟩
 ·rw [e,hrt]
  exact trodAll_mk1 (shut_bool htb true)
 ·rw [e]
  exact qvy hl hb hr hA (fun x hx=>hlt x (by simpa using hx))
 ·rw [e,hvars]
  rfl
end
theorem q5z {H:Type} (d:DataW H):1≤Rows.uptoBulk d:=by
 cases d with
 |lit l=>cases l <;> simp [Rows.uptoBulk]
 |nil=>simp [Rows.uptoBulk]
 |ptr d=>simp [Rows.uptoBulk]
 |slice elems spare=>simp [Rows.uptoBulk]
 |agg parts=>simp [Rows.uptoBulk]
 |iface t d=>simp [Rows.uptoBulk]
 |map entries=>simp [Rows.uptoBulk]
 |held h=>simp [Rows.uptoBulk]
theorem q5y {H:Type} {d:DataW H}:∀ {l:List (DataW H)},d∈l→Rows.uptoBulk d≤Rows.uptoBulkAll l
 |x::r,h=>by
  simp only [Rows.uptoBulkAll]
  rcases List.mem_cons.1 h with rfl|h
  ·omega
  ·have:=q5y h;omega
def RepL (Z:ZMap):List Value→List C→Prop
 |[],[]=>True
 |u::us,x::xs=>RepC Z u x∧RepL Z us xs
 |_,_=>False
theorem RepL.len {Z:ZMap}:∀ {us:List Value} {xs:List C},RepL Z us xs→us.length=xs.length
 |[],[],_=>rfl
 |u::us,x::xs,h=>by simp [RepL.len h.2]
 |[],_::_,h=>h.elim
 |_::_,[],h=>h.elim
theorem RepL.get {Z:ZMap}:∀ {us:List Value} {xs:List C},RepL Z us xs→∀ (i:Nat) u x,us[i]?=some u→xs[i]?=some x→RepC Z u x
 |[],[],_,i,u,x,h,_=>by simp at h
 |u::us,x::xs,h,i,u',x',h1,h2=>by
  cases i with
  |zero=>simp at h1 h2;subst h1 h2;exact h.1
  |succ i=>simp at h1 h2;exact RepL.get h.2 i u' x' h1 h2
 |[],_::_,h,_,_,_,_,_=>h.elim
 |_::_,[],h,_,_,_,_,_=>h.elim
theorem qd6 {α:Type} {k:Nat}:∀ {css:List (List α)},(∀ cs∈css,cs.length=k)→∀ (i j:Nat) cs,css[i]?=some cs→j<k→css.flatten[i*k+j]?=cs[j]?
 |[],_,i,j,cs,h,_=>by simp at h
 |c::css,hk,i,j,cs,h,hj=>by
  have hc:c.length=k:=hk c (by simp)
  cases i with
  |zero =>
   simp at h;subst h
   rw [List.flatten_cons,List.getElem?_append_left (by omega)]
   simp
  |succ i =>
   simp at h
   rw [List.flatten_cons,List.getElem?_append_right (by rw [hc,Nat.add_mul];omega),←qd6 (fun d hd=>hk d (by simp [hd])) i j cs h hj]
   congr 1
   rw [hc,Nat.add_mul];omega
theorem rd_rep {w:World} {k n c:Nat} {A:Option Addr} {css:List (List Value)} {es:List (List C)} (hr:Rd w k A n c css.flatten) (hn:css.length=n) (hN:A=none→c=0) (hk:0<k) (hcs:∀ cs∈css,cs.length=k) (hl:es.length=css.length)
  (he:∀ (i:Nat) cs e,css[i]?=some cs→es[i]?=some e→RepL (Zw w) cs e):RepC (Zw w) (.slice A n c) (.sl es):=by
 have helen:∀ e∈es,e.length=k:=fun e hm=>by
  obtain ⟨i,hi,rfl⟩:=List.getElem_of_mem hm
  have hx:i<css.length:=by omega
  rw [←(he i _ _ (List.getElem?_eq_getElem hx) (List.getElem?_eq_getElem hi)).len]
  exact hcs _ (List.getElem_mem hx)
 by_cases h0:es=[]
 ·subst h0
  have:n=0:=by rw [←hn,←hl];rfl
  exact .sl A n c k 0 0 (fun _=>.nilFunc) [] (by simp [this]) hr.le hr.2.2.1 (by simp) (by simp) (by simp) (by simp) hN
 ·have hn0:0<n*k:=by
   have:0<es.length:=List.length_pos_iff.2 h0
   exact Nat.mul_pos (by omega) hk
  obtain ⟨b,off,hA,_,hcell⟩:=hr.place hn0
  have hget:∀ (i:Nat) (e:List C) (j:Nat) (x:C),es[i]?=some e→e[j]?=some x→∃ u,css.flatten[i*k+j]?=some u∧RepC (Zw w) u x:=by
   intro i e j x h1 h2
   have hi:i<css.length:=by
    have:=(List.getElem?_eq_some_iff.1 h1).1
    omega
   have hj:j<k:=by
    rw [←helen e (List.mem_of_getElem? h1)]
    exact (List.getElem?_eq_some_iff.1 h2).1
   have hcl:=hcs _ (List.getElem_mem hi)
   have hu:css[i][j]?=some (css[i][j]'(by omega)):=List.getElem?_eq_getElem _
   exact ⟨_,by rw [qd6 hcs i j css[i] (List.getElem?_eq_getElem hi) hj,hu],(he i _ e (List.getElem?_eq_getElem hi) h1).get j _ x hu h2⟩
  refine .sl A n c k b off (fun j=>(css.flatten[j]?).getD .nilFunc) es (by omega) hr.le hr.2.2.1 helen (fun _=>hA) ?_ ?_ hN
  ·intro i e j x h1 h2
   obtain ⟨u,hu,_⟩:=hget i e j x h1 h2
   simp only [hu,Option.getD_some]
   exact hcell _ _ hu
  ·intro i e j x h1 h2
   obtain ⟨u,hu,hr'⟩:=hget i e j x h1 h2
   simp only [hu,Option.getD_some]
   exact hr'
theorem qkb {H:Type} {enc:TypeId×Value→H} {P:Program} {w:World} {base:Nat} {spare:Nat→Bool} {held:Bool} {t e:TypeId} {fuel n c:Nat} {A:Option Addr} {x:DataW H×List MemPlace} (ht:P.underlying t=some (.slice e))
  (h:DataW.trod enc P w base spare held fuel t [.slice A n c]=some x):A=none→c=0:=by
 intro hA
 subst hA
 rcases open_slice ht h with ⟨hcs,_⟩|⟨a,len,cap,m,n',D,Pl,hcs,_⟩
 ·injection hcs with hcs
  injection hcs
 ·injection hcs with hcs
  injection hcs with h1
  cases h1
section
variable {H:Type} {enc:TypeId×Value→H} {P:Program}
theorem qky {w:World} {base:Nat} {spare:Nat→Bool} {held:Bool} {t e:TypeId} {k fuel:Nat} {v:Value} {x:DataW H×List MemPlace} (ht:P.underlying t=some (.slice e)) (hC:P.cellsOf e=k) (hk:0<k)
  (h:DataW.trod enc P w base spare held fuel t [v]=some x) (hone:∀ fuel cs y,Rows.uptoBulk y.1<Rows.uptoBulk x.1→DataW.trod enc P w base spare held fuel e cs=some y→∀ u∈cs,u.oneCell'=true) :
  ∃ A n c css ds,v=.slice A n c∧Rd w k A n c (List.flatten css)∧css.length=n∧ds.length=n∧Rows.uptoBulkAll ds+1≤Rows.uptoBulk x.1∧∀ (i:Nat) cs d,css[i]?=some cs→ds[i]?=some d→cs.length=k∧∃ fuel pl,DataW.trod enc P w base spare held fuel e cs=some (d,pl):=by
 rcases open_slice ht h with ⟨hcs,_⟩|⟨a,len,cap,m,n,D,Pl,hcs,_,hl,hm,hmm,hxx,hi⟩
 ·injection hcs with hcs
  exact ⟨none,0,0,[],[],hcs,Rd.nil,rfl,rfl,by have:=q5z x.1;simp only [Rows.uptoBulkAll];omega,by simp⟩
 ·injection hcs with hcs
  have hlm:len≤m:=by rw [hmm];split <;> omega
  have hsum:Rows.uptoBulkAll ((List.range len).map D)+1≤Rows.uptoBulk x.1:=by rw [hxx];simp only [Rows.uptoBulk];omega
  have hDb:∀ i,i<len→Rows.uptoBulk (D i)<Rows.uptoBulk x.1:=fun i hi'=>by
   have:=q5y (List.mem_map.2 ⟨i,List.mem_range.2 hi',rfl⟩:D i∈(List.range len).map D)
   omega
  have hex:∀ i,i<len→∃ cs',w.cells? base (a.add (i*k)) k=some cs'∧DataW.trod enc P w base spare held n e cs'=some (D i,Pl i):=fun i hi'=>by
   have:=hi i (by omega)
   rwa [hC] at this
  obtain ⟨C,hCC⟩:=choose_lt (α:=List Value) (p:=fun i cs'=>w.cells? base (a.add (i*k)) k=some cs'∧DataW.trod enc P w base spare held n e cs'=some (D i,Pl i)) hex
  have hlen:∀ i,i<len→(C i).length=k:=fun i hi'=>(World.cells?_some (hCC i hi').1).2.1
  have hcell:∀ i,i<len→∀ j,j<k→w.cell? (a.add (i*k+j))=(C i)[j]?:=fun i hi' j hj=>by
   have:=(World.cells?_some (hCC i hi').1).2.2 j hj
   rwa [Go.Deep.add_add] at this
  have hfl:∀ m',m'≤len→(((List.range m').map C).flatten).length=m'*k:=by
   intro m' hm'
   induction m' with
   |zero=>simp
   |succ m' ih =>
    rw [List.range_succ,List.map_append,List.flatten_append,List.length_append,ih (by omega)]
    simp [hlen m' (by omega),Nat.add_mul]
  have hget:∀ m',m'≤len→∀ i j,i<m'→j<k→(((List.range m').map C).flatten)[i*k+j]?=(C i)[j]?:=by
   intro m' hm'
   induction m' with
   |zero=>intro i j hi';omega
   |succ m' ih =>
    intro i j hi' hj
    rw [List.range_succ,List.map_append,List.flatten_append]
    rcases Nat.lt_or_ge i m' with h'|h'
    ·rw [List.getElem?_append_left (by
      rw [hfl m' (by omega)]
      have:(i+1)*k≤m'*k:=Nat.mul_le_mul_right k h'
      rw [Nat.add_mul] at this
      omega)]
     exact ih (by omega) i j h' hj
    ·have:i=m':=by omega
     subst this
     rw [List.getElem?_append_right (by rw [hfl i (by omega)];omega),hfl i (by omega)]
     simp
  refine ⟨some a,len,cap,(List.range len).map C,(List.range len).map D,hcs,⟨by rw [hfl len (Nat.le_refl _)],hl,hm,?_,?_⟩,by simp,by simp,hsum,?_⟩
  ·intro u hu
   obtain ⟨cs,hcs',hu'⟩:=List.mem_flatten.1 hu
   obtain ⟨i,hi',rfl⟩:=List.mem_map.1 hcs'
   exact hone n _ _ (hDb i (by simpa using hi')) (hCC i (by simpa using hi')).2 u hu'
  ·intro hpos
   have hl0:0<len:=Nat.pos_of_mul_pos_right hpos
   have h00:=hcell 0 hl0 0 hk
   have hc0:(C 0)[0]?=some ((C 0)[0]'(by rw [hlen 0 hl0];exact hk)):=List.getElem?_eq_getElem _
   rw [hc0] at h00
   have hadd:(a.add (0*k+0))=a:=by simp [Addr.add]
   rw [hadd] at h00
   obtain ⟨b,off,spot⟩:=a
   have hsp:spot=none:=by
    cases spot with
    |none=>rfl
    |some s =>
     unfold World.cell? at h00
     split at h00 <;> simp at h00
   subst hsp
   refine ⟨b,off,rfl,?_,?_⟩
   ·rcases Nat.lt_or_ge b w.heap.size with hlt|hge
    ·exact hlt
    ·unfold World.cell? at h00
     rw [Array.getElem?_eq_none hge] at h00
     cases h00
   ·intro j u hu
    have hjl:j<len*k:=by
     rw [←hfl len (Nat.le_refl _)]
     rcases Nat.lt_or_ge j ((List.range len).map C).flatten.length with h'|h'
     ·exact h'
     ·rw [List.getElem?_eq_none h'] at hu;cases hu
    have hdm:j / k*k+j % k=j:=by rw [Nat.mul_comm];exact Nat.div_add_mod j k
    have hdl:j / k<len:=(Nat.div_lt_iff_lt_mul hk).2 hjl
    have h1:=hcell (j / k) hdl (j % k) (Nat.mod_lt _ hk)
    have h2:=hget len (Nat.le_refl _) (j / k) (j % k) hdl (Nat.mod_lt _ hk)
    rw [hdm] at h1 h2
    rw [h2] at hu
    rw [hu] at h1
    rw [←h1]
    unfold Addr.add
    split
    ·rename_i h0;subst h0;rfl
    ·rfl
  ·intro i cs d h1 h2
   have hi':i<len:=by
    have:=(List.getElem?_eq_some_iff.1 h1).1
    simpa using this
   rw [List.getElem?_map,List.getElem?_range hi'] at h1 h2
   simp only [Option.map_some,Option.some.injEq] at h1 h2
   subst h1 h2
   exact ⟨hlen i hi',n,_,(hCC i hi').2⟩
end
def All2 {α β:Type} (R:α→β→Prop):List α→List β→Prop
 |[],[]=>True
 |a::l,b::m=>R a b∧All2 R l m
 |_,_=>False
theorem q12 {α β:Type} {R:α→β→Prop}:∀ {l:List α} {m:List β},l.length=m.length→(∀ (i:Nat) a b,l[i]?=some a→m[i]?=some b→R a b)→All2 R l m
 |[],[],_,_=>trivial
 |a::l,b::m,h,hR=>⟨hR 0 a b rfl rfl,q12 (by simpa using h) fun i x y hx hy=>hR (i+1) x y hx hy⟩
 |[],_::_,h,_=>by cases h
 |_::_,[],h,_=>by cases h
theorem qp7 {H:Type} {enc:TypeId×Value→H} {w:World} {t e:TypeId} {k fuel:Nat} {v:Value} {x:DataW H×List MemPlace} {τ:Type} (E:EC τ) (R:τ→DataW H→Prop) (ht:Tryz.prog.underlying t=some (.slice e)) (hC:Tryz.prog.cellsOf e=k) (hk:0<k)
  (h:DataW.trod enc Tryz.prog w 0 (fun _=>true) true fuel t [v]=some x)
  (hE:∀ fuel cs y,Rows.uptoBulk y.1<Rows.uptoBulk x.1→DataW.trod enc Tryz.prog w 0 (fun _=>true) true fuel e cs=some y→∃ a:τ,RepL (Zw w) cs (E.enc a)∧R a y.1) :
  ∃ (l:List τ) (ds:List (DataW H)),RepC (Zw w) v (.sl (E.encL l))∧Rows.uptoBulkAll ds+1≤Rows.uptoBulk x.1∧All2 R l ds:=by
 obtain ⟨A,n,c,css,ds,hv,hr,hn,hn',hsum,hcs⟩:=qky ht hC hk h (fun fuel cs y hb hy u hu=>by
  obtain ⟨a,ha,_⟩:=hE fuel cs y hb hy
  obtain ⟨i,hi,rfl⟩:=List.getElem_of_mem hu
  have hx:i<(E.enc a).length:=by rw [←ha.len];exact hi
  exact (ha.get i _ _ (List.getElem?_eq_getElem hi) (List.getElem?_eq_getElem hx)).one)
 subst hv
 haveI:Inhabited τ:=⟨E.dec []⟩
 have hall:∀ i,i<css.length→∃ a:τ,(∀ cs,css[i]?=some cs→RepL (Zw w) cs (E.enc a))∧(∀ d,ds[i]?=some d→R a d):=fun i hi=>by
  have hi':i<ds.length:=by omega
  obtain ⟨_,fuel,pl,hy⟩:=hcs i _ _ (List.getElem?_eq_getElem hi) (List.getElem?_eq_getElem hi')
  have hb:=q5y (List.getElem_mem hi')
  obtain ⟨a,ha,hra⟩:=hE fuel _ _ (by show Rows.uptoBulk ds[i]<_;omega) hy
  exact ⟨a,fun cs h=>by rw [List.getElem?_eq_getElem hi] at h;injection h with h;subst h;exact ha,fun d h=>by rw [List.getElem?_eq_getElem hi'] at h;injection h with h;subst h;exact hra⟩
 obtain ⟨F,hF⟩:=choose_lt (α:=τ) (n:=css.length) hall
 refine ⟨(List.range css.length).map F,ds,rd_rep hr hn (qkb ht h) hk (fun cs hc=>by
  obtain ⟨i,hi,rfl⟩:=List.getElem_of_mem hc
  exact (hcs i _ _ (List.getElem?_eq_getElem hi) (List.getElem?_eq_getElem (show i<ds.length by omega))).1) (by simp [EC.encL]) ?_,hsum,q12 (by simp;omega) ?_⟩
 ·intro i cs e h1 h2
  have hi:i<css.length:=(List.getElem?_eq_some_iff.1 h1).1
  rw [EC.encL,List.getElem?_map,List.getElem?_map,List.getElem?_range hi] at h2
  simp only [Option.map_some,Option.some.injEq] at h2
  subst h2
  exact (hF i hi).1 cs h1
 ·intro i a d h1 h2
  have hi:i<css.length:=by have:=(List.getElem?_eq_some_iff.1 h1).1;simpa using this
  rw [List.getElem?_map,List.getElem?_range hi] at h1
  simp only [Option.map_some,Option.some.injEq] at h1
  subst h1
  exact (hF i hi).2 d h2
end Go.Proofs.YtjlkjiifkganoaaGreat
