/- Laws on vacation.Reply: lists, replies, once. -/
import Derived.Test.YtepmpilapglklaaGreatZ28
import Derived.Test.YtepmpilapglklaaGreatH4
namespace Go.Proofs.YtepmpilapglklaaGreat
open Go.RowKit
theorem qxv (x:ByteArray):(x==x)=true:=by
 first
 |exact beq_self_eq_true x
 |(show (x.data==x.data)=true;exact beq_self_eq_true _)
 |exact decide_eq_true rfl
theorem q15w (a:List S44) (hl:a.length≤2000000):∀ (m k:Nat),k+m=a.length→Ok (q14u a a k) fun x=>Sum.elim (fun _=>False) (fun _=>True) x:=by
 intro m
 induction m with
 |zero =>
  intro k hk
  refine .via q14w ?_
  unfold q151
  simp only [EC.decL_encL,EC.isL_encL,EC.encL_length,qy7,q3n,q3o]
  exact qmz (fun h=>absurd (of_decide_eq_true h) (by omega)) (fun _=>qn1 rfl (qn1 rfl (qn2 trivial)))
 |succ m ih =>
  intro k hk
  have hlt:k<a.length:=by omega
  have e2:IntKind.i64.wrap ((k:Int)+1)=((k+1:Nat):Int):=by rw [qxb (by omega)];rfl
  refine .via q14w ?_
  unfold q151
  simp only [EC.decL_encL,EC.isL_encL,EC.encL_length,qy7,q3n,q3o,Int.toNat_natCast,e2]
  refine qmz (fun _=>?_) (fun h=>absurd (of_decide_eq_false h) (by omega))
  refine qn1 (by simp) (qn1 (by simp [hlt]) (qn1 (by simp) (qn1 (by simp [hlt]) ?_)))
  exact qmz (fun h=>by rw [qxv,beq_self_eq_true] at h;cases h) (fun _=>qn1 rfl (qn1 rfl (ih (k+1) (by omega))))
theorem q15x (a:List S44) (hl:a.length≤2000000):q152 a a=some true:=q14t (by
 unfold q153
 refine keyO _ _ ?_
 simp only [EC.decL_encL,EC.isL_encL,EC.encL_length]
 refine qmz (fun h=>by simp at h) (fun _=>qn1 rfl (qn1 rfl (qmy (q15w a hl a.length 0 (by omega)) fun x hx=>?_)))
 rcases x with x|x
 ·exact hx.elim
 ·exact qn2 rfl)
end Go.Proofs.YtepmpilapglklaaGreat
namespace Go.Proofs.YtepmpilapglklaaGreat
open Go.RowKit
theorem tim_in {n:Int} (h:tim n=true):-68719476736≤n∧n≤68719476736:=by
 unfold tim at h
 rw [Bool.and_eq_true,decide_eq_true_iff,decide_eq_true_iff] at h
 exact h
def kpR (s:ByteArray) (now:Int) (kn:Bool) (x:S44):Bool:=!(L x.Sender==L s)&&(kn||decide (now<IntKind.i64.wrap (x.At+604800)))
def goF (s:ByteArray) (now:Int) (kn:Bool):Bool→List S44→List S44
 |d,[]=>if d=true then [] else [⟨s,now⟩]
 |d,x::l=>(if (!d&&!ltR x.Sender s)=true then [⟨s,now⟩] else [])++((if kpR s now kn x=true then [x] else [])++goF s now kn (d||!ltR x.Sender s) l)
theorem qyq (r:List S44) (hr:r.length≤2000000) (s:ByteArray) (now:Int) (kn:Bool):∀ (m k:Nat) (acc:List S44) (d:Bool),k+m=r.length→acc.length≤2*k →
  Ok (q13x r s now kn acc.length d k acc) fun x=>x.2++(if x.1.2.2.2.2.2.1=true then [] else [⟨s,now⟩])=acc++goF s now kn d (r.drop k)∧x.1.2.2.2.2.1=x.2.length∧x.1.2.1=s∧x.1.2.2.1=now∧x.2.length≤2*r.length:=by
 intro m
 induction m with
 |zero =>
  intro k acc d hk ha
  refine .via q13z ?_
  unfold q143
  simp only [EC.decL_encL,EC.isL_encL,EC.encL_length,qy7,q3n,q3o,all_44,apd_44]
  refine qmz (fun h=>absurd (of_decide_eq_true h) (by omega)) (fun _=>qn1 rfl (qn1 rfl (qn2 ⟨?_,rfl,rfl,rfl,(show acc.length≤_ by omega)⟩)))
  rw [List.drop_eq_nil_of_le (by omega)];rfl
 |succ m ih =>
  intro k acc d hk ha
  have hlt:k<r.length:=by omega
  have e2:IntKind.i64.wrap ((k:Int)+1)=((k+1:Nat):Int):=by rw [qxb (by omega)];rfl
  have hrec:∀ (acc':List S44) (d':Bool),acc'.length≤2*(k+1)→acc'++goF s now kn d' (r.drop (k+1))=acc++goF s now kn d (r.drop k)→∀ c,c=acc'.length →
    Ok (q13x r s now kn c d' ((k+1:Nat):Int) acc') fun x=>x.2++(if x.1.2.2.2.2.2.1=true then [] else [⟨s,now⟩])=acc++goF s now kn d (r.drop k)∧x.1.2.2.2.2.1=x.2.length∧x.1.2.1=s∧x.1.2.2.1=now∧x.2.length≤2*r.length:=by
   intro acc' d' h1 h2 c h3
   subst h3
   have:=ih (k+1) acc' d' (by omega) h1
   rw [h2] at this
   exact this
  have hgo:goF s now kn d (r.drop k)=(if (!d&&!ltR r[k].Sender s)=true then [⟨s,now⟩] else [])++((if kpR s now kn r[k]=true then [r[k]] else [])++goF s now kn (d||!ltR r[k].Sender s) (r.drop (k+1))):=by rw [q9e hlt,goF]
  refine .via q13z ?_
  unfold q143
  simp only [EC.decL_encL,EC.isL_encL,EC.encL_length,qy7,q3n,q3o,all_44,apd_44,Int.toNat_natCast,e2,qg7 hlt,quh]
  refine qmz (fun _=>?_) (fun h=>absurd (of_decide_eq_false h) (by omega))
  refine qmz (fun hd=>?_) (fun hd=>?_)
  ·have hd:d=false:=by simpa using hd
   subst hd
   refine qn1 (by simp) (qn1 (by simp [hlt]) (qmz (fun hl=>?_) (fun hl=>?_)))
   ·have hl:ltR r[k].Sender s=false:=by
     have hl:(!ltR r[k].Sender s)=true:=hl
     simpa using hl
    refine qn1 (by simp;omega) ?_
    refine qn1 (by simp) (qn1 (by simp [hlt]) ?_)
    have kk:∀ q,kpR s now kn r[k]=q→goF s now kn false (r.drop k)=[⟨s,now⟩]++((if q=true then [r[k]] else [])++goF s now kn true (r.drop (k+1))):=by
     intro q hq
     rw [hgo,hq,hl];rfl
    refine qmz (fun h1=>qmz (fun h2=>qn1 (by simp) (qn1 (by simp [hlt]) (qmz (fun h3=>qn1 (by simp) (qn1 (by simp [hlt]) (qn1 (by simp;omega) (qn1 rfl (qn1 rfl (hrec _ _ (by first|omega|(simp;omega)) ?_ _ (by first|rfl|simp))))))) (fun h3=>qn1 rfl (qn1 rfl (hrec _ _ (by first|omega|(simp;omega)) ?_ _ (by first|rfl|simp))))))) (fun h2=>qn1 (by simp) (qn1 (by simp [hlt]) (qn1 (by simp;omega) (qn1 rfl (qn1 rfl (hrec _ _ (by first|omega|(simp;omega)) ?_ _ (by first|rfl|simp)))))))) (fun h1=>qn1 rfl (qn1 rfl (hrec _ _ (by first|omega|(simp;omega)) ?_ _ (by first|rfl|simp))))
    ·have h1:(!(L r[k].Sender==L s))=true:=by simpa using h1
     rw [kk true (by unfold kpR;rw [h1,h3];simp)]
     simp
    ·have h2:kn=false:=by simpa using h2
     rw [kk false (by unfold kpR;rw [h2,h3];simp)]
     simp
    ·have h1:(!(L r[k].Sender==L s))=true:=by simpa using h1
     have h2:kn=true:=by simpa using h2
     rw [kk true (by unfold kpR;rw [h1,h2];rfl)]
     simp
    ·have h1:(!(L r[k].Sender==L s))=false:=by simpa using h1
     rw [kk false (by unfold kpR;rw [h1];rfl)]
     simp
   ·have hl:ltR r[k].Sender s=true:=by
     have hl:(!ltR r[k].Sender s)=false:=hl
     simpa using hl
    refine qn1 (by simp) (qn1 (by simp [hlt]) ?_)
    have kk:∀ q,kpR s now kn r[k]=q→goF s now kn false (r.drop k)=[]++((if q=true then [r[k]] else [])++goF s now kn false (r.drop (k+1))):=by
     intro q hq
     rw [hgo,hq,hl];rfl
    refine qmz (fun h1=>qmz (fun h2=>qn1 (by simp) (qn1 (by simp [hlt]) (qmz (fun h3=>qn1 (by simp) (qn1 (by simp [hlt]) (qn1 (by simp;omega) (qn1 rfl (qn1 rfl (hrec _ _ (by first|omega|(simp;omega)) ?_ _ (by first|rfl|simp))))))) (fun h3=>qn1 rfl (qn1 rfl (hrec _ _ (by first|omega|(simp;omega)) ?_ _ (by first|rfl|simp))))))) (fun h2=>qn1 (by simp) (qn1 (by simp [hlt]) (qn1 (by simp;omega) (qn1 rfl (qn1 rfl (hrec _ _ (by first|omega|(simp;omega)) ?_ _ (by first|rfl|simp)))))))) (fun h1=>qn1 rfl (qn1 rfl (hrec _ _ (by first|omega|(simp;omega)) ?_ _ (by first|rfl|simp))))
    ·have h1:(!(L r[k].Sender==L s))=true:=by simpa using h1
     rw [kk true (by unfold kpR;rw [h1,h3];simp)]
     simp
    ·have h2:kn=false:=by simpa using h2
     rw [kk false (by unfold kpR;rw [h2,h3];simp)]
     simp
    ·have h1:(!(L r[k].Sender==L s))=true:=by simpa using h1
     have h2:kn=true:=by simpa using h2
     rw [kk true (by unfold kpR;rw [h1,h2];rfl)]
     simp
    ·have h1:(!(L r[k].Sender==L s))=false:=by simpa using h1
     rw [kk false (by unfold kpR;rw [h1];rfl)]
     simp
  ·have hd:d=true:=by simpa using hd
   subst hd
   refine qn1 (by simp) (qn1 (by simp [hlt]) ?_)
   have kk:∀ q,kpR s now kn r[k]=q→goF s now kn true (r.drop k)=[]++((if q=true then [r[k]] else [])++goF s now kn true (r.drop (k+1))):=by
    intro q hq
    rw [hgo,hq];rfl
   refine qmz (fun h1=>qmz (fun h2=>qn1 (by simp) (qn1 (by simp [hlt]) (qmz (fun h3=>qn1 (by simp) (qn1 (by simp [hlt]) (qn1 (by simp;omega) (qn1 rfl (qn1 rfl (hrec _ _ (by first|omega|(simp;omega)) ?_ _ (by first|rfl|simp))))))) (fun h3=>qn1 rfl (qn1 rfl (hrec _ _ (by first|omega|(simp;omega)) ?_ _ (by first|rfl|simp))))))) (fun h2=>qn1 (by simp) (qn1 (by simp [hlt]) (qn1 (by simp;omega) (qn1 rfl (qn1 rfl (hrec _ _ (by first|omega|(simp;omega)) ?_ _ (by first|rfl|simp)))))))) (fun h1=>qn1 rfl (qn1 rfl (hrec _ _ (by first|omega|(simp;omega)) ?_ _ (by first|rfl|simp))))
   ·have h1:(!(L r[k].Sender==L s))=true:=by simpa using h1
    rw [kk true (by unfold kpR;rw [h1,h3];simp)]
    simp
   ·have h2:kn=false:=by simpa using h2
    rw [kk false (by unfold kpR;rw [h2,h3];simp)]
    simp
   ·have h1:(!(L r[k].Sender==L s))=true:=by simpa using h1
    have h2:kn=true:=by simpa using h2
    rw [kk true (by unfold kpR;rw [h1,h2];rfl)]
    simp
   ·have h1:(!(L r[k].Sender==L s))=false:=by simpa using h1
    rw [kk false (by unfold kpR;rw [h1];rfl)]
    simp
theorem now_s {r:List S44} (hs:srt r) (hr:r.length≤300) (s:ByteArray) (now:Int):q144 r s now=some (((goF s now (atB r s) false r).length,decide ((goF s now (atB r s) false r).length≤300)),goF s now (atB r s) false r):=q13w (by
 unfold q145
 refine keyO _ _ ?_
 simp only [EC.decL_encL,EC.isL_encL,all_44,apd_44,qe]
 refine qn1 rfl (qmy (qn0 (rat_s hs (by omega) s)) fun r0 hr0=>qn1 rfl ?_)
 have hkn:decide (r0≥(0:Int))=atB r s:=by
  rw [hr0]
  cases atB r s with
  |true=>rw [if_pos rfl];exact decide_eq_true (by omega)
  |false=>rfl
 rw [hkn]
 have hd:∀ n:Nat,decide ((n:Int)≤300)=decide (n≤300):=by intro n;rw [Bool.eq_iff_iff,decide_eq_true_iff,decide_eq_true_iff];omega
 refine qmy (qyq r (by omega) s now (atB r s) r.length 0 [] false (by omega) (by simp)) fun x hx=>?_
 obtain ⟨h1,h2,h3,h4,h5⟩:=hx
 rw [List.nil_append,List.drop_zero] at h1
 simp only [h2,h3,h4]
 refine qmz (fun g=>?_) (fun g=>qn1 rfl (qn2 ?_))
 ·have g:x.1.2.2.2.2.2.1=false:=by simpa using g
  rw [g,if_neg (by decide)] at h1
  rw [←h1]
  refine qn1 (by simp;omega) (qn1 rfl (qn2 ?_))
  rw [hd]
  simp
 ·have g:x.1.2.2.2.2.2.1=true:=by simpa using g
  rw [g,if_pos rfl,List.append_nil] at h1
  rw [←h1,hd])
theorem qyg (x:S44) (l:List S44) (t:ByteArray):lb (x::l) t=if ltR x.Sender t=true then lb l t+1 else 0:=by
 unfold lb
 rw [List.takeWhile_cons]
 cases ltR x.Sender t <;> rfl
theorem qy2 (s:ByteArray) (now:Int) (kn:Bool):∀ l:List S44,goF s now kn true l=l.filter (kpR s now kn)
 |[]=>rfl
 |x::l=>by
  rw [goF,Bool.true_or,qy2 s now kn l,List.filter_cons]
  cases kpR s now kn x <;> rfl
theorem qyh:∀ (l:List S44) (t:ByteArray),(∀ x∈l,ltR x.Sender t=false)→lb l t=0
 |[],_,_=>rfl
 |x::l,t,h=>by rw [qyg,h x (by simp)];rfl
theorem ge_of {x y:S44} {s:ByteArray} (h1:ltR x.Sender s=false) (h2:ltR x.Sender y.Sender=true):ltR s y.Sender=true:=by
 rcases lt_tri (L x.Sender) (L s) with h|h|h
 ·unfold ltR at h1;rw [h] at h1;cases h1
 ·unfold ltR at *;rw [←h];exact h2
 ·exact ql5 h h2
theorem qy3 (s:ByteArray) (now:Int):∀ l:List S44,srt l→(∀ x∈l,L x.Sender≠L s)→goF s now false false l=insR (l.filter (kpR s now false)) s now
 |[],_,_=>rfl
 |x::l,hs,hn=>by
  obtain ⟨h1,h2⟩:=List.pairwise_cons.1 hs
  rw [goF]
  cases hx:ltR x.Sender s with
  |true =>
   rw [Bool.not_true,Bool.false_or,qy3 s now l h2 (fun y hy=>hn y (List.mem_cons_of_mem _ hy)),List.filter_cons]
   cases hk:kpR s now false x with
   |false=>rfl
   |true =>
    rw [if_neg (by decide),if_pos rfl,if_pos rfl,List.nil_append]
    unfold insR
    rw [qyg,hx,if_pos rfl,List.take_succ_cons,List.drop_succ_cons];rfl
  |false =>
   rw [Bool.not_false,Bool.false_or,qy2,if_pos (by rfl)]
   have h0:lb ((x::l).filter (kpR s now false)) s=0:=by
    refine qyh _ _ fun y hy=>?_
    rcases List.mem_cons.1 (List.mem_filter.1 hy).1 with rfl|hy
    ·exact hx
    ·exact lt_asy (ge_of hx (h1 y hy))
   unfold insR
   rw [h0,List.filter_cons]
   cases kpR s now false x <;> rfl
theorem qy4 (s:ByteArray) (now:Int):∀ l:List S44,srt l→atB l s=true→goF s now true false l=setR l s now
 |[],_,h=>by cases h
 |x::l,hs,h=>by
  obtain ⟨h1,h2⟩:=List.pairwise_cons.1 hs
  rw [goF]
  unfold setR atR atB at *
  rw [qyg] at h ⊢
  cases hx:ltR x.Sender s with
  |true =>
   rw [hx,if_pos rfl] at h
   have h:atB l s=true:=h
   have ih:=qy4 s now l h2 h
   unfold setR atR at ih
   have hk:kpR s now true x=true:=by
    unfold kpR
    have:(L x.Sender==L s)=false:=by
     rw [beq_eq_false_iff_ne]
     intro h9
     unfold ltR at hx
     rw [h9,lt_irr] at hx;cases hx
    rw [this];rfl
   rw [hk,Bool.not_true,Bool.false_or,ih];rfl
  |false =>
   rw [hx,if_neg (by decide)] at h
   have h:(L x.Sender==L s)=true:=h
   have hk:kpR s now true x=false:=by unfold kpR;rw [h];rfl
   have hf:l.filter (kpR s now true)=l:=by
    rw [List.filter_eq_self]
    intro y hy
    have h9:=h1 y hy
    have e:L x.Sender=L s:=by simpa using h
    unfold ltR at h9
    rw [e] at h9
    unfold kpR
    have:(L y.Sender==L s)=false:=by
     rw [beq_eq_false_iff_ne]
     intro h8
     rw [h8,lt_irr] at h9;cases h9
    rw [this];rfl
   have e:x.Sender=s:=BA_ext (by simpa using h)
   rw [hk,Bool.not_false,Bool.false_or,qy2,hf,←e];rfl
theorem new_kp {x:S44} {s:ByteArray} {now:Int} (hx:tim x.At=true) (hn:tim now=true) (h:L x.Sender≠L s):kpR s now false x=newR now x:=by
 have h1:=tim_in hx
 have h2:=tim_in hn
 unfold kpR newR oldR
 have h3:(L x.Sender==L s)=false:=by rw [beq_eq_false_iff_ne];exact h
 rw [h3,qxb (by omega),qxb (by omega)]
 by_cases h4:now<x.At+604800
 ·rw [decide_eq_true h4,decide_eq_false (by omega:¬ 604800≤now - x.At)];rfl
 ·rw [decide_eq_false h4,decide_eq_true (by omega:604800≤now - x.At)];rfl
theorem qyr {r:List S44} (hs:srt r) {s:ByteArray} {now:Int} (h:atB r s=true):goF s now (atB r s) false r=setR r s now:=by rw [h];exact qy4 s now r hs h
theorem qyp {r:List S44} (hs:srt r) {s:ByteArray} {now:Int} (ht:∀ x∈r,tim x.At=true) (hn:tim now=true) (h:atB r s=false):goF s now (atB r s) false r=insR (keepR r now) s now:=by
 have hne:∀ x∈r,L x.Sender≠L s:=by
  intro x hx he
  obtain ⟨j,hj,rfl⟩:=List.getElem_of_mem hx
  rw [(srt_at hs s hj he).2] at h;cases h
 rw [h,qy3 s now r hs hne]
 congr 1
 unfold keepR
 exact List.filter_congr fun x hx=>new_kp (ht x hx) hn (hne x hx)
theorem q15z (r:List S44) (s:ByteArray) (now:Int):(setR r s now).length=r.length:=by unfold setR;rw [List.length_set]
theorem qy6 (q:List S44) (s:ByteArray) (now:Int):(insR q s now).length=q.length+1:=by
 unfold insR
 have:=lb_le q s
 simp only [List.length_append,List.length_take,List.length_drop,List.length_cons,List.length_nil]
 omega
theorem due_s {r:List S44} {fr:ByteArray} {rc:List S81} {i:ByteArray} {f:List S57} {b:List Int} {me t:ByteArray} {now:Int} (h:VArg r fr rc i b me) (v:VOk r fr rc i f b me t now) :
  q12m r fr rc i f b me now=some (dueB r fr f me now):=q12l (by
 unfold q12n
 refine keyO _ _ ?_
 simp only [EC.decL_encL,EC.isL_encL,EC.encL_length,qy7,q3o,qxx]
 have hf:=h.hfr
 refine qn1 rfl (qmy (qn0 (rat_s v.hsrt (by have:=v.len;omega) fr)) fun r0 hr0=>?_)
 refine qmz (fun g1=>qmy (qn0 (qxn fr me (by omega))) fun r1 hr1=>qmz (fun g2=>qn1 rfl (qn1 rfl (qmy (qn0 (q15o v.hdr b)) fun r2 hr2=>qmz (fun g3=>qmz (fun g4=>?_) (fun g4=>qn2 ?_)) (fun g3=>qn2 ?_)))) (fun g2=>qn2 ?_)) (fun g1=>qn2 ?_)
 ·have g1:em fr=false:=by simpa using g1
  have g2:r1=false:=by simpa using g2
  have g3:r2=false:=by simpa using g3
  have hat:atB r fr=true:=by
   cases ha:atB r fr with
   |true=>rfl
   |false =>
    rw [ha,if_neg (by decide)] at hr0
    rw [hr0] at g4;cases g4
  rw [hat,if_pos rfl] at hr0
  obtain ⟨a1,a2⟩:=q3m hat
  subst hr0
  simp only [Int.toNat_natCast]
  refine qn1 (by simp) (qn1 (by simp [a1]) (qn2 ?_))
  have hx:tim (atR r fr).At=true:=by
   unfold atR
   rw [qg7 a1]
   exact (v.hall _ (List.getElem_mem a1)).2
  have t1:=tim_in hx
  have t2:=tim_in v.tnow
  unfold dueB oldR
  have hwa:IntKind.i64.wrap ((atR r fr).At+604800)=(atR r fr).At+604800:=qxb (by omega)
  have hwb:IntKind.i64.wrap (now - (atR r fr).At)=now - (atR r fr).At:=qxb (by omega)
  rw [g1,←hr1,g2,←hr2,g3,hat,hwb]
  have hgl:decide (IntKind.i64.wrap ((atR r fr).At+604800)≤now)=decide ((atR r fr).At+604800≤now):=by rw [hwa]
  refine Eq.trans hgl ?_
  by_cases h4:(atR r fr).At+604800≤now
  ·rw [decide_eq_true h4,decide_eq_true (by omega:604800≤now - (atR r fr).At)];rfl
  ·rw [decide_eq_false h4,decide_eq_false (by omega:¬ 604800≤now - (atR r fr).At)];rfl
 ·have g1:em fr=false:=by simpa using g1
  have g2:r1=false:=by simpa using g2
  have g3:r2=false:=by simpa using g3
  have hat:atB r fr=false:=by
   cases ha:atB r fr with
   |false=>rfl
   |true =>
    rw [ha,if_pos rfl] at hr0
    rw [hr0] at g4
    have:((lb r fr:Int)<0):=by simpa using g4
    omega
  unfold dueB
  rw [g1,←hr1,g2,←hr2,g3,hat];rfl
 ·have g3:r2=true:=by simpa using g3
  unfold dueB
  rw [←hr2,g3];simp
 ·have g2:r1=true:=by simpa using g2
  unfold dueB
  rw [←hr1,g2];simp
 ·have g1:em fr=true:=by simpa using g1
  unfold dueB
  rw [g1];rfl)
theorem q15t (a:List S57) (hl:a.length≤2000000):∀ (m k:Nat),k+m=a.length→Ok (q10h a a k) fun x=>Sum.elim (fun _=>False) (fun _=>True) x:=by
 intro m
 induction m with
 |zero =>
  intro k hk
  refine .via q10j ?_
  unfold q10o
  simp only [EC.decL_encL,EC.isL_encL,EC.encL_length,qy8,q3p,q3q]
  exact qmz (fun h=>absurd (of_decide_eq_true h) (by omega)) (fun _=>qn1 rfl (qn1 rfl (qn2 trivial)))
 |succ m ih =>
  intro k hk
  have hlt:k<a.length:=by omega
  have e2:IntKind.i64.wrap ((k:Int)+1)=((k+1:Nat):Int):=by rw [qxb (by omega)];rfl
  refine .via q10j ?_
  unfold q10o
  simp only [EC.decL_encL,EC.isL_encL,EC.encL_length,qy8,q3p,q3q,Int.toNat_natCast,e2]
  refine qmz (fun _=>?_) (fun h=>absurd (of_decide_eq_false h) (by omega))
  refine qn1 (by simp) (qn1 (by simp [hlt]) (qn1 (by simp) (qn1 (by simp [hlt]) ?_)))
  exact qmz (fun h=>by rw [qxv,qxv] at h;cases h) (fun _=>qn1 rfl (qn1 rfl (ih (k+1) (by omega))))
theorem q15u (f:List S57) (hl:f.length≤2000000) (b:List Int):q10v f b f b=some true:=q10u (by
 have h:q10p f f=some true:=q10g (by
  unfold q10q
  refine keyO _ _ ?_
  simp only [EC.decL_encL,EC.isL_encL,EC.encL_length]
  refine qmz (fun h=>by simp at h) (fun _=>qn1 rfl (qn1 rfl (qmy (q15t f hl f.length 0 (by omega)) fun x hx=>?_)))
  rcases x with x|x
  ·exact hx.elim
  ·exact qn2 rfl)
 unfold q10w
 refine keyO _ _ ?_
 simp only [EC.decL_encL,EC.isL_encL,q74]
 refine qn1 rfl (qn1 rfl (qmy (qn0 h) fun r hr=>qmz (fun _=>qn2 ?_) (fun h9=>by rw [hr] at h9;cases h9)))
 exact beq_self_eq_true _)
theorem q15y (a:ByteArray) (rc:List S81) (hl:rc.length≤2000000) (i:ByteArray) (f:List S57) (b:List Int):∀ (m k:Nat),k+m=rc.length→Ok (q14g k a rc i f b a rc i f b) fun x=>Sum.elim (fun _=>False) (fun _=>True) x:=by
 intro m
 induction m with
 |zero =>
  intro k hk
  refine .via q14i ?_
  unfold q14n
  simp only [EC.decL_encL,EC.isL_encL,EC.encL_length,isE_81,q3r,q3s]
  exact qmz (fun h=>absurd (of_decide_eq_true h) (by omega)) (fun _=>qn1 rfl (qn1 rfl (qn1 rfl (qn1 rfl (qn1 rfl (qn1 rfl (qn2 trivial)))))))
 |succ m ih =>
  intro k hk
  have hlt:k<rc.length:=by omega
  have e2:IntKind.i64.wrap ((k:Int)+1)=((k+1:Nat):Int):=by rw [qxb (by omega)];rfl
  refine .via q14i ?_
  unfold q14n
  simp only [EC.decL_encL,EC.isL_encL,EC.encL_length,isE_81,q3r,q3s,Int.toNat_natCast,e2]
  refine qmz (fun _=>?_) (fun h=>absurd (of_decide_eq_false h) (by omega))
  refine qn1 (by simp) (qn1 (by simp [hlt]) (qn1 (by simp) (qn1 (by simp [hlt]) ?_)))
  exact qmz (fun h=>by rw [qxv,beq_self_eq_true] at h;cases h) (fun _=>qn1 rfl (qn1 rfl (qn1 rfl (qn1 rfl (qn1 rfl (qn1 rfl (ih (k+1) (by omega))))))))
theorem q15v (a:ByteArray) (rc:List S81) (hl:rc.length≤2000000) (i:ByteArray) (f:List S57) (hf:f.length≤2000000) (b:List Int):q14o a rc i f b a rc i f b=some true:=q14f (by
 unfold q14p
 refine keyO _ _ ?_
 simp only [EC.decL_encL,EC.isL_encL,EC.encL_length,beq_self_eq_true]
 refine qmz (fun _=>qmz (fun _=>qmz (fun _=>?_) (fun h=>by simp at h)) (fun h=>by cases h)) (fun h=>by cases h)
 refine qn1 rfl (qn1 rfl (qn1 rfl (qn1 rfl (qmy (qn0 (q15u f hf b)) fun r hr=>qmz (fun h=>by rw [hr] at h;cases h) (fun _=>?_)))))
 refine qn1 rfl (qn1 rfl (qn1 rfl (qn1 rfl (qn1 rfl (qn1 rfl (qmy (q15y a rc hl i f b rc.length 0 (by omega)) fun x hx=>?_))))))
 rcases x with x|x
 ·exact hx.elim
 ·exact qn2 rfl)
theorem qy0 {β:Type} (o:Option β):gdE true o=o:=rfl
theorem qxq {r:List S44} {fr:ByteArray} {rc:List S81} {i:ByteArray} {f:List S57} {b:List Int} {me t:ByteArray} {now:Int} {e:Int×Int} (h:vld r fr rc i f b me t now=e) (h1:e.1≠0):ans r fr rc i f b me t now=([],nulM,false,e):=by
 unfold ans
 rw [h,if_pos h1]
theorem qys:q14o eB [] eB [] [] eB [] eB [] []=some true:=q15v eB [] (by decide) eB [] (by decide) []
theorem q15p (f:List S57) (fr me:ByteArray):(repF f fr me).length≤5:=by
 unfold repF
 by_cases h:em (firstV f cMid)=true
 ·rw [if_pos h];simp
 ·rw [if_neg h];simp
theorem qye {r:List S44} {fr:ByteArray} {rc:List S81} {i:ByteArray} {b:List Int} {me:ByteArray} (h:VArg r fr rc i b me) (f:List S57) (t:ByteArray) (now:Int) :
  qyw r fr rc i f b me t now=some true:=qyv (by
 unfold qyx
 refine keyO _ _ ?_
 simp only [EC.decL_encL,EC.isL_encL,EC.encL_length,qy7,q3o,qy0]
 refine qmy (qn0 (ans_s h f t now)) fun r0 hr0=>qmy (qn0 (q15r r h.hr)) fun r1 hr1=>qmy (qn0 (qwu r h.hr)) fun r2 hr2=>?_
 subst hr1
 subst hr2
 refine qmz (fun g=>by simp at g) (fun _=>qmz (fun g1=>?_) (fun g1=>?_))
 rotate_left
 ·have k1:(rfL r).1≠0:=by simpa using g1
  have hv:vld r fr rc i f b me t now=rfL r:=by unfold vld;rw [if_pos k1]
  rw [qxq hv k1] at hr0
  subst hr0
  refine qmz (fun g=>absurd g (by simpa using k1)) (fun _=>qmz (fun _=>qmz (fun _=>qmz (fun _=>qmz (fun _=>qmy (qn0 qys) fun z hz=>qmz (fun _=>qn2 rfl) (fun g=>by rw [hz] at g;cases g)) (fun g=>by cases g)) (fun g=>by cases g)) (fun g=>by simp at g)) (fun g=>absurd g (by simpa using k1)))
 have k1:¬ (rfL r).1≠0:=by simpa using g1
 have z1:(rfL r).1=0:=by simpa using g1
 refine qmy (qn0 (mv_s f b h.hb).1) fun r3 hr3=>qmz (fun g2=>?_) (fun g2=>?_)
 ·subst hr3
  have c:(MV f b).1≠0:=by simpa using g2
  have hv:vld r fr rc i f b me t now=((MV f b).1,-2):=by unfold vld;rw [if_neg k1,if_pos c]
  rw [qxq hv c] at hr0
  subst hr0
  refine qmy (qn0 (qxu _ _)) fun q hq=>?_
  subst hq
  refine qmz (fun g=>absurd g (by first|(simp;done)|simpa using c)) (fun _=>qmz (fun _=>qmz (fun _=>qmz (fun _=>qmz (fun _=>qmy (qn0 qys) fun z hz=>qmz (fun _=>qn2 rfl) (fun g=>by rw [hz] at g;cases g)) (fun g=>by cases g)) (fun g=>by cases g)) (fun g=>by simp at g)) (fun g=>absurd g (by first|(simp;done)|simpa using c)))
 subst hr3
 have k2:¬ (MV f b).1≠0:=by simpa using g2
 refine qmy (qn0 (ev_s fr rc i h.hfr h.hrc h.had)) fun r3 hr3=>qmz (fun g3=>?_) (fun g3=>?_)
 ·subst hr3
  have c:(EV fr rc i).1≠0:=by simpa using g3
  have hv:vld r fr rc i f b me t now=((EV fr rc i).1,-3):=by unfold vld;rw [if_neg k1,if_neg k2,if_pos c]
  rw [qxq hv c] at hr0
  subst hr0
  refine qmy (qn0 (qxu _ _)) fun q hq=>?_
  subst hq
  refine qmz (fun g=>absurd g (by first|(simp;done)|simpa using c)) (fun _=>qmz (fun _=>qmz (fun _=>qmz (fun _=>qmz (fun _=>qmy (qn0 qys) fun z hz=>qmz (fun _=>qn2 rfl) (fun g=>by rw [hz] at g;cases g)) (fun g=>by cases g)) (fun g=>by cases g)) (fun g=>by simp at g)) (fun g=>absurd g (by first|(simp;done)|simpa using c)))
 subst hr3
 have k3:¬ (EV fr rc i).1≠0:=by simpa using g3
 refine qmy (qn0 (addr_r me h.hme)) fun r3 hr3=>qmz (fun g4=>?_) (fun g4=>?_)
 ·subst hr3
  have k4:addrB me=false:=by simpa using g4
  have c:(10:Int)≠0:=by decide
  have hv:vld r fr rc i f b me t now=(10,-4):=by unfold vld;rw [if_neg k1,if_neg k2,if_neg k3,if_pos k4]
  rw [qxq hv c] at hr0
  subst hr0
  refine qmy (qn0 (qxu _ _)) fun q hq=>?_
  subst hq
  refine qmz (fun g=>absurd g (by first|(simp;done)|simpa using c)) (fun _=>qmz (fun _=>qmz (fun _=>qmz (fun _=>qmz (fun _=>qmy (qn0 qys) fun z hz=>qmz (fun _=>qn2 rfl) (fun g=>by rw [hz] at g;cases g)) (fun g=>by cases g)) (fun g=>by cases g)) (fun g=>by simp at g)) (fun g=>absurd g (by first|(simp;done)|simpa using c)))
 subst hr3
 have k4:¬ addrB me=false:=by simpa using g4
 refine qmz (fun g5=>?_) (fun g5=>?_)
 ·have k5:(4000:Int)<t.size:=of_decide_eq_true g5
  have c:(1:Int)≠0:=by decide
  have hv:vld r fr rc i f b me t now=(1,-5):=by unfold vld;rw [if_neg k1,if_neg k2,if_neg k3,if_neg k4,if_pos k5]
  rw [qxq hv c] at hr0
  subst hr0
  refine qmy (qn0 (qxu _ _)) fun q hq=>?_
  subst hq
  refine qmz (fun g=>absurd g (by first|(simp;done)|simpa using c)) (fun _=>qmz (fun _=>qmz (fun _=>qmz (fun _=>qmz (fun _=>qmy (qn0 qys) fun z hz=>qmz (fun _=>qn2 rfl) (fun g=>by rw [hz] at g;cases g)) (fun g=>by cases g)) (fun g=>by cases g)) (fun g=>by simp at g)) (fun g=>absurd g (by first|(simp;done)|simpa using c)))
 have k5:¬ (4000:Int)<t.size:=of_decide_eq_false g5
 refine qmy (qn0 (inst_s now)) fun r3 hr3=>qmz (fun g6=>?_) (fun g6=>?_)
 ·subst hr3
  have k6:tim now=false:=by simpa using g6
  have c:(3:Int)≠0:=by decide
  have hv:vld r fr rc i f b me t now=(3,-6):=by unfold vld;rw [if_neg k1,if_neg k2,if_neg k3,if_neg k4,if_neg k5,if_pos k6]
  rw [qxq hv c] at hr0
  subst hr0
  refine qmy (qn0 (qxu _ _)) fun q hq=>?_
  subst hq
  refine qmz (fun g=>absurd g (by first|(simp;done)|simpa using c)) (fun _=>qmz (fun _=>qmz (fun _=>qmz (fun _=>qmz (fun _=>qmy (qn0 qys) fun z hz=>qmz (fun _=>qn2 rfl) (fun g=>by rw [hz] at g;cases g)) (fun g=>by cases g)) (fun g=>by cases g)) (fun g=>by simp at g)) (fun g=>absurd g (by first|(simp;done)|simpa using c)))
 subst hr3
 have k6:¬ tim now=false:=by simpa using g6
 obtain ⟨q1,q2,q3⟩:=rfL_ok z1
 have hfin:(¬ (atB r fr=true∧now<(atR r fr).At))→VOk r fr rc i f b me t now∧vld r fr rc i f b me t now=(0,0):=fun k7=>vld_ok h (by
  unfold vld
  rw [if_neg k1,if_neg k2,if_neg k3,if_neg k4,if_neg k5,if_neg k6,if_neg k7])
 refine qmy (qn0 (rat_s q2 (by omega) fr)) fun r7 hr7=>qmz (fun g7=>?_) (fun g7=>?_)
 ·have hat:atB r fr=true:=by
   cases ha:atB r fr with
   |true=>rfl
   |false =>
    rw [ha,if_neg (by decide)] at hr7
    rw [hr7] at g7;cases g7
  rw [hat,if_pos rfl] at hr7
  subst hr7
  obtain ⟨a1,a2⟩:=q3m hat
  simp only [Int.toNat_natCast]
  refine qn1 (by simp) (qn1 (by simp [a1]) (qmz (fun g8=>?_) (fun g8=>?_)))
  ·have k8:now<(atR r fr).At:=of_decide_eq_true g8
   have c:(19:Int)≠0:=by decide
   have hv:vld r fr rc i f b me t now=(19,(lb r fr:Int)):=by unfold vld;rw [if_neg k1,if_neg k2,if_neg k3,if_neg k4,if_neg k5,if_neg k6,if_pos ⟨hat,k8⟩]
   rw [qxq hv c] at hr0
   subst hr0
   refine qmy (qn0 (qxu _ _)) fun q hq=>?_
   subst hq
   refine qmz (fun g=>absurd g (by first|(simp;done)|simpa using c)) (fun _=>qmz (fun _=>qmz (fun _=>qmz (fun _=>qmz (fun _=>qmy (qn0 qys) fun z hz=>qmz (fun _=>qn2 rfl) (fun g=>by rw [hz] at g;cases g)) (fun g=>by cases g)) (fun g=>by cases g)) (fun g=>by simp at g)) (fun g=>absurd g (by first|(simp;done)|simpa using c)))
  ·have k8:¬ now<(atR r fr).At:=of_decide_eq_false g8
   obtain ⟨v,hv⟩:=hfin (fun g9=>k8 g9.2)
   have ha:ans r fr rc i f b me t now=if dueB r fr f me now=false then (r,nulM,false,(0,0)) else ansT r fr i f me t now:=by
    unfold ans
    rw [hv,if_neg (by decide)]
   rw [ha] at hr0
   refine qmz (fun _=>?_) (fun g=>by rw [z1] at g;cases g)
   refine qmy (qn0 (due_s (t:=t) h v)) fun r8 hr8=>qmz (fun gd=>?_) (fun gd=>?_)
   ·have hd:dueB r fr f me now=true:=by rw [←hr8];exact gd
    rw [hd,if_neg (by decide)] at hr0
    refine qmy (qn0 (q15q fr rc i v.hdr b me t h.hfr (by have:=h.hi;omega) h.hme (by have:=v.txt;omega))) fun r9 hr9=>qmy (qn0 (now_s v.hsrt v.len fr now)) fun r10 hr10=>?_
    subst hr9
    have hev:=ev_s eB [⟨fr,0⟩] (cRep++i) (by decide) (by simp) (fun x hx=>by
     have:x=⟨fr,0⟩:=by simpa using hx
     rw [this];exact h.hfr)
    have hmv:=(mv_s (repF f fr me) (bodyF t) (q6h t v.txt)).1
    unfold ansT at hr0
    refine qmy (qn0 hev) fun r11 hr11=>qmz (fun ge=>?_) (fun ge=>?_)
    ·subst hr11
     have c:(EV eB [⟨fr,0⟩] (cRep++i)).1≠0:=by simpa using ge
     rw [if_pos c] at hr0
     refine qmy (qn0 (qxu _ _)) fun q hq=>?_
     subst hq
     subst hr0
     refine qmz (fun _=>qmz (fun _=>qmz (fun _=>qmz (fun _=>qmy (qn0 qys) fun z hz=>qmz (fun _=>qn2 rfl) (fun g=>by rw [hz] at g;cases g)) (fun g=>by cases g)) (fun g=>by cases g)) (fun g=>by simp at g)) (fun g=>absurd g (by first|(simp;done)|simpa using c))
    subst hr11
    rw [if_neg (by simpa using ge)] at hr0
    refine qmy (qn0 hmv) fun r11 hr11=>qmz (fun gm=>?_) (fun gm=>?_)
    ·subst hr11
     have c:(MV (repF f fr me) (bodyF t)).1≠0:=by simpa using gm
     rw [if_pos c] at hr0
     refine qmy (qn0 (qxu _ _)) fun q hq=>?_
     subst hq
     subst hr0
     refine qmz (fun _=>qmz (fun _=>qmz (fun _=>qmz (fun _=>qmy (qn0 qys) fun z hz=>qmz (fun _=>qn2 rfl) (fun g=>by rw [hz] at g;cases g)) (fun g=>by cases g)) (fun g=>by cases g)) (fun g=>by simp at g)) (fun g=>absurd g (by first|(simp;done)|simpa using c))
    subst hr11
    rw [if_neg (by simpa using gm)] at hr0
    rw [if_pos hat] at hr0
    rw [qyr v.hsrt hat] at hr10
    have hl3:=v.len
    have hle:decide ((setR r fr now).length≤300)=true:=by rw [q15z];exact decide_eq_true hl3
    rw [hle] at hr10
    subst hr10
    subst hr0
    rw [hd] at hr8
    subst hr8
    refine qmz (fun g=>by cases g) (fun _=>?_)
    refine qmz (fun g=>by rw [z1] at g;cases g) (fun _=>qmz (fun _=>qmz (fun _=>qmy (qn0 (q15x (setR r fr now) (by rw [q15z];omega))) fun z hz=>qmz (fun _=>qmy (qn0 (q15v eB [⟨fr,0⟩] (by simp) (cRep++i) (repF f fr me) (by have:=q15p f fr me;omega) (bodyF t))) fun z hz=>qmz (fun _=>qn2 rfl) (fun g=>by rw [hz] at g;cases g)) (fun g=>by rw [hz] at g;cases g)) (fun g=>by cases g)) (fun g=>by cases g))
   ·have hd:dueB r fr f me now=false:=by rw [←hr8];exact gd
    rw [hd,if_pos rfl] at hr0
    subst hr0
    rw [hd] at hr8
    subst hr8
    have hl3:=v.len
    refine qmz (fun g=>by rw [z1] at g;cases g) (fun _=>qmz (fun _=>qmz (fun _=>qmy (qn0 (q15x r (by omega))) fun z hz=>qmz (fun _=>qmy (qn0 qys) fun z hz=>qmz (fun _=>qn2 rfl) (fun g=>by rw [hz] at g;cases g)) (fun g=>by rw [hz] at g;cases g)) (fun g=>by cases g)) (fun g=>by cases g))
 ·have hat:atB r fr=false:=by
   cases ha:atB r fr with
   |false=>rfl
   |true =>
    rw [ha,if_pos rfl] at hr7
    rw [hr7] at g7
    have:¬ ((lb r fr:Int)≥0):=by first|(simp at g7;done)|simpa using g7
    omega
  obtain ⟨v,hv⟩:=hfin (fun g9=>by rw [hat] at g9;cases g9.1)
  have ha:ans r fr rc i f b me t now=if dueB r fr f me now=false then (r,nulM,false,(0,0)) else ansT r fr i f me t now:=by
   unfold ans
   rw [hv,if_neg (by decide)]
  rw [ha] at hr0
  refine qmz (fun _=>?_) (fun g=>by rw [z1] at g;cases g)
  refine qmy (qn0 (due_s (t:=t) h v)) fun r8 hr8=>qmz (fun gd=>?_) (fun gd=>?_)
  ·have hd:dueB r fr f me now=true:=by rw [←hr8];exact gd
   rw [hd,if_neg (by decide)] at hr0
   refine qmy (qn0 (q15q fr rc i v.hdr b me t h.hfr (by have:=h.hi;omega) h.hme (by have:=v.txt;omega))) fun r9 hr9=>qmy (qn0 (now_s v.hsrt v.len fr now)) fun r10 hr10=>?_
   subst hr9
   have hev:=ev_s eB [⟨fr,0⟩] (cRep++i) (by decide) (by simp) (fun x hx=>by
    have:x=⟨fr,0⟩:=by simpa using hx
    rw [this];exact h.hfr)
   have hmv:=(mv_s (repF f fr me) (bodyF t) (q6h t v.txt)).1
   unfold ansT at hr0
   refine qmy (qn0 hev) fun r11 hr11=>qmz (fun ge=>?_) (fun ge=>?_)
   ·subst hr11
    have c:(EV eB [⟨fr,0⟩] (cRep++i)).1≠0:=by simpa using ge
    rw [if_pos c] at hr0
    refine qmy (qn0 (qxu _ _)) fun q hq=>?_
    subst hq
    subst hr0
    refine qmz (fun _=>qmz (fun _=>qmz (fun _=>qmz (fun _=>qmy (qn0 qys) fun z hz=>qmz (fun _=>qn2 rfl) (fun g=>by rw [hz] at g;cases g)) (fun g=>by cases g)) (fun g=>by cases g)) (fun g=>by simp at g)) (fun g=>absurd g (by first|(simp;done)|simpa using c))
   subst hr11
   rw [if_neg (by simpa using ge)] at hr0
   refine qmy (qn0 hmv) fun r11 hr11=>qmz (fun gm=>?_) (fun gm=>?_)
   ·subst hr11
    have c:(MV (repF f fr me) (bodyF t)).1≠0:=by simpa using gm
    rw [if_pos c] at hr0
    refine qmy (qn0 (qxu _ _)) fun q hq=>?_
    subst hq
    subst hr0
    refine qmz (fun _=>qmz (fun _=>qmz (fun _=>qmz (fun _=>qmy (qn0 qys) fun z hz=>qmz (fun _=>qn2 rfl) (fun g=>by rw [hz] at g;cases g)) (fun g=>by cases g)) (fun g=>by cases g)) (fun g=>by simp at g)) (fun g=>absurd g (by first|(simp;done)|simpa using c))
   subst hr11
   rw [if_neg (by simpa using gm)] at hr0
   rw [if_neg (by rw [hat];decide)] at hr0
   rw [qyp v.hsrt (fun x hx=>(v.hall x hx).2) v.tnow hat] at hr10
   have hl3:=v.len
   have hkl:=qje r now
   by_cases hk:(keepR r now).length=300
   ·rw [if_pos hk] at hr0
    have hle:decide ((insR (keepR r now) fr now).length≤300)=false:=by rw [qy6,hk];rfl
    rw [hle] at hr10
    subst hr10
    have c:(2:Int)≠0:=by decide
    refine qmz (fun _=>?_) (fun g=>by cases g)
    refine qmy (qn0 (qxu _ _)) fun q hq=>?_
    subst hq
    subst hr0
    refine qmz (fun _=>qmz (fun _=>qmz (fun _=>qmz (fun _=>qmy (qn0 qys) fun z hz=>qmz (fun _=>qn2 rfl) (fun g=>by rw [hz] at g;cases g)) (fun g=>by cases g)) (fun g=>by cases g)) (fun g=>by simp at g)) (fun g=>absurd g (by first|(simp;done)|simpa using c))
   ·rw [if_neg hk] at hr0
    have hle:decide ((insR (keepR r now) fr now).length≤300)=true:=by rw [qy6];exact decide_eq_true (by omega)
    rw [hle] at hr10
    subst hr10
    subst hr0
    rw [hd] at hr8
    subst hr8
    refine qmz (fun g=>by cases g) (fun _=>?_)
    refine qmz (fun g=>by rw [z1] at g;cases g) (fun _=>qmz (fun _=>qmz (fun _=>qmy (qn0 (q15x (insR (keepR r now) fr now) (by rw [qy6];omega))) fun z hz=>qmz (fun _=>qmy (qn0 (q15v eB [⟨fr,0⟩] (by simp) (cRep++i) (repF f fr me) (by have:=q15p f fr me;omega) (bodyF t))) fun z hz=>qmz (fun _=>qn2 rfl) (fun g=>by rw [hz] at g;cases g)) (fun g=>by rw [hz] at g;cases g)) (fun g=>by cases g)) (fun g=>by cases g))
  ·have hd:dueB r fr f me now=false:=by rw [←hr8];exact gd
   rw [hd,if_pos rfl] at hr0
   subst hr0
   rw [hd] at hr8
   subst hr8
   have hl3:=v.len
   refine qmz (fun g=>by rw [z1] at g;cases g) (fun _=>qmz (fun _=>qmz (fun _=>qmy (qn0 (q15x r (by omega))) fun z hz=>qmz (fun _=>qmy (qn0 qys) fun z hz=>qmz (fun _=>qn2 rfl) (fun g=>by rw [hz] at g;cases g)) (fun g=>by rw [hz] at g;cases g)) (fun g=>by cases g)) (fun g=>by cases g)))
end Go.Proofs.YtepmpilapglklaaGreat
