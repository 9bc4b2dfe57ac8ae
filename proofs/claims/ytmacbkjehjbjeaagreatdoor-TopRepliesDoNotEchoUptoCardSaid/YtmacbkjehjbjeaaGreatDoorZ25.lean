/- The reply to a mail: the code's and the reference's. -/
import Derived.Test.YtmacbkjehjbjeaaGreatDoorZ24
import Derived.Test.YtmacbkjehjbjeaaGreatDoorH2
namespace Go.Proofs.YtmacbkjehjbjeaaGreatDoor
open Go.RowKit
theorem qq4 (s p:ByteArray) (hs:s.size≤2000000):qse s p=some (sufB (L s) (L p)):=qsd (by
 unfold qsf sufB
 simp only [q6m,qfz,quh,L_ext,qj]
 by_cases h:p.size≤s.size
 ·have h1:((s.size:Int)≥(p.size:Int)):=by omega
  have h2:IntKind.i64.wrap ((s.size:Int) - (p.size:Int))=((s.size - p.size:Nat):Int):=by rw [qxb (by omega)];omega
  have h3:(L s).drop (s.size - p.size)=((L s).drop (s.size - p.size)).take (s.size - (s.size - p.size)):=by
   rw [List.take_of_length_le];rw [List.length_drop,qj];omega
  rw [h2]
  simp only [Int.toNat_natCast,←h3]
  simp [h1,h]
 ·have h1:¬ ((s.size:Int)≥(p.size:Int)):=by omega
  rw [if_neg (by simpa using h1)]
  simp [h])
def cRe:ByteArray:=ByteArray.mk (List.toArray [82,101,58])
def cReS:ByteArray:=ByteArray.mk (List.toArray [82,101,58,32])
def cSp:ByteArray:=ByteArray.mk (List.toArray [32])
theorem trim_s (v:ByteArray) (hv:v.size≤4000) (hn:noSp (L v)):qs2 (cReS++v) cSp=some (if em v=true then cRe else cReS++v):=qs1 (by
 unfold qs3
 have hsz:(cReS++v).size=4+v.size:=by rw [ByteArray.size_append];rfl
 have hp:cSp.size=1:=rfl
 have:qsk (cReS++v) cSp=some (if em v=true then cRe else cReS++v):=qsj (by
  unfold qsl
  rw [qq4 _ _ (by rw [hsz];omega),Option.bind_some]
  have hw:IntKind.i64.wrap (((cReS++v).size:Int) - (cSp.size:Int))=((3+v.size:Nat):Int):=by rw [hsz,hp,qxb (by omega)];omega
  rw [hw]
  have e1:L (cReS++v)=[82,101,58,32]++L v:=by rw [L_app];rfl
  cases hv0:em v with
  |true =>
   have h0:L v=[]:=by rw [em_L] at hv0;simpa using hv0
   have hs0:v.size=0:=by rw [←qj,h0];rfl
   have h2:sufB (L (cReS++v)) (L cSp)=true:=by rw [e1,h0];decide +kernel
   rw [h2,hs0,hsz,hs0,if_pos rfl]
   show some _=some _
   congr 1
  |false =>
   have h2:sufB (L (cReS++v)) (L cSp)=false:=by
    unfold sufB
    rw [Bool.and_eq_false_iff]
    right
    rw [beq_eq_false_iff_ne]
    intro h3
    have h4:L cSp=[32]:=rfl
    rw [h4] at h3
    have h5:L (cReS++v)=(L (cReS++v)).take ((L (cReS++v)).length - 1)++[32]:=by
     conv=>lhs;rw [←List.take_append_drop ((L (cReS++v)).length - 1) (L (cReS++v))]
     rw [show ((L (cReS++v)).drop ((L (cReS++v)).length - 1))=[32] from h3]
    have h0:L v≠[]:=by rw [em_L] at hv0;intro h9;rw [h9] at hv0;cases hv0
    have h6:L v=(L v).dropLast++[(L v).getLast h0]:=(List.dropLast_concat_getLast h0).symm
    have h7:(L v).getLast h0=32:=by
     rw [e1,h6,←List.append_assoc] at h5
     have:=List.append_inj_right' h5 rfl
     simpa using this
    rw [h7] at h6
    exact hn _ h6
   rw [h2];rfl)
 rw [this];rfl)
def cSub:ByteArray:=ByteArray.mk (List.toArray [83,117,98,106,101,99,116])
def cMid:ByteArray:=ByteArray.mk (List.toArray [77,101,115,115,97,103,101,45,73,100])
def cRep:ByteArray:=ByteArray.mk (List.toArray [114,101,112,108,121,46])
def cLt:ByteArray:=ByteArray.mk (List.toArray [60])
def cGt:ByteArray:=ByteArray.mk (List.toArray [62])
def autF:S57:=⟨ByteArray.mk (List.toArray [65,117,116,111,45,83,117,98,109,105,116,116,101,100]),ByteArray.mk (List.toArray [97,117,116,111,45,114,101,112,108,105,101,100])⟩
def repF (f:List S57) (fr me:ByteArray):List S57 :=
 [⟨ByteArray.mk (List.toArray [70,114,111,109]),(cLt++me)++cGt⟩,⟨ByteArray.mk (List.toArray [84,111]),(cLt++fr)++cGt⟩,⟨cSub,if em (firstV f cSub)=true then cRe else cReS++firstV f cSub⟩] ++
 (if em (firstV f cMid)=true then [] else [⟨ByteArray.mk (List.toArray [73,110,45,82,101,112,108,121,45,84,111]),firstV f cMid⟩])++[autF]
def bodyF (t:ByteArray):List Int:=(linL (L t)).map nb
theorem qke (l:List UInt8):(linL l).length≤2*l.length+2:=by
 have:=qgc _ l (Nat.le_refl _)
 unfold linL
 split
 ·omega
 ·rw [List.length_append];simp only [List.length_cons,List.length_nil];omega
theorem qon (fr:ByteArray) (rc:List S69) (i:ByteArray) {f:List S57} (hf:HdrOk f) (b:List Int) (me t:ByteArray) (h1:fr.size≤2000000) (h2:i.size≤2000000) (h3:me.size≤2000000) (h4:t.size≤1000000) :
  qwk fr rc i f b me t=some (ByteArray.mk (List.toArray []),[⟨fr,0⟩],cRep++i,repF f fr me,bodyF t):=qwj (by
 unfold qwl
 have key:∀ {α:Type} (o:Option α) (T:α),Ok o (fun r=>r=T)→o=some T:=by rintro α o T ⟨r,h,rfl⟩;exact h
 refine key _ _ ?_
 obtain ⟨s1,s2⟩:=qcm hf cSub
 obtain ⟨m1,_⟩:=qcm hf cMid
 have z1:(ByteArray.mk (List.toArray [(60:UInt8)])).size=1:=rfl
 have z2:(ByteArray.mk (List.toArray [(62:UInt8)])).size=1:=rfl
 have z3:(ByteArray.mk (List.toArray [(82:UInt8),101,58,32])).size=4:=rfl
 have z4:(ByteArray.mk (List.toArray [(114:UInt8),101,112,108,121,46])).size=6:=rfl
 simp only [EC.decL_encL,EC.isL_encL,maxI,ByteArray.size_append,z1,z2,z3,z4,qxx]
 refine qmz (fun h=>absurd (of_decide_eq_true h) (by omega)) (fun _=>qmz (fun h=>absurd (of_decide_eq_true h) (by omega)) (fun _=>qmz (fun h=>absurd (of_decide_eq_true h) (by omega)) (fun _=>qmz (fun h=>absurd (of_decide_eq_true h) (by omega)) (fun _=>qn1 rfl ?_))))
 refine qmy (qn0 (qcn hf cSub (by decide))) fun r0 hr0=>?_
 subst hr0
 refine qmz (fun h=>absurd (of_decide_eq_true h) (by omega)) (fun _=>?_)
 refine qmy (qn0 (trim_s _ s1 s2)) fun r1 hr1=>qn1 rfl ?_
 refine qmy (qn0 (qcn hf cMid (by decide))) fun r2 hr2=>?_
 subst hr2
 have hl:linP t=some (mkB1 (linL (L t))):=by unfold linP;rw [if_pos h4];rfl
 have hll:=qke (L t)
 rw [qj] at hll
 have hz:(mkB1 (linL (L t))).size≤9223372036854775807:=by rw [qma];omega
 have hbd:bodyF t=ints (mkB1 (linL (L t))):=by unfold bodyF ints;rw [show (mkB1 (linL (L t))).data.toList=linL (L t) from L_mkB _]
 have hemp:(mkB1 (linL (L t))).size=0→bodyF t=[]:=by
  intro h
  rw [qma] at h
  unfold bodyF
  rw [List.eq_nil_of_length_eq_zero h];rfl
 have hF:∀ x,x=repF f fr me→repF f fr me=x:=fun x h=>h.symm
 refine qmz (fun h=>?_) (fun h=>?_)
 ·have h:em (firstV f cMid)=false:=by simpa using h
  refine qmz (fun h=>absurd (of_decide_eq_true h) (by omega)) (fun _=>qmy (qn0 hl) fun r3 hr3=>?_)
  subst hr3
  refine qn1 (decide_eq_true hz) (qmz (fun h9=>qn2 ?_) (fun h9=>?_))
  ·rw [hemp (by simpa using h9)]
   unfold repF
   rw [h,hr1];rfl
  ·rw [q76,EC.isL_encL,EC.decL_encL,←hbd]
   refine qn1 rfl (qn2 ?_)
   unfold repF
   rw [h,hr1];rfl
 ·have h:em (firstV f cMid)=true:=by simpa using h
  refine qmz (fun h=>absurd (of_decide_eq_true h) (by omega)) (fun _=>qmy (qn0 hl) fun r3 hr3=>?_)
  subst hr3
  refine qn1 (decide_eq_true hz) (qmz (fun h9=>qn2 ?_) (fun h9=>?_))
  ·rw [hemp (by simpa using h9)]
   unfold repF
   rw [h,hr1];rfl
  ·rw [q76,EC.isL_encL,EC.decL_encL,←hbd]
   refine qn1 rfl (qn2 ?_)
   unfold repF
   rw [h,hr1];rfl)
end Go.Proofs.YtmacbkjehjbjeaaGreatDoor
namespace Go.Proofs.YtmacbkjehjbjeaaGreatDoor
open Go.RowKit
noncomputable def MV (f:List S57) (b:List Int):Int×Int:=(qlf f b).getD (0,0)
noncomputable def EV (f:ByteArray) (l:List S69) (i:ByteArray):Int×Int:=(qbd f l i).getD (0,0)
theorem mv_s (f:List S57) (b:List Int) (hb:b.length≤2000000):qlf f b=some (MV f b)∧((MV f b).1=0→HdrOk f):=by
 obtain ⟨r,h,p⟩:=qmc f b hb
 unfold MV
 rw [h]
 exact ⟨rfl,p⟩
theorem ev_s (f:ByteArray) (l:List S69) (i:ByteArray) (hf:f.size≤2000000) (hl:l.length≤2000000) (ha:∀ x∈l,x.Address.size≤2000000):qbd f l i=some (EV f l i):=by
 obtain ⟨r,h,p⟩:=env_ok f l i hf hl ha
 unfold EV
 rw [h];rfl
structure VArg (r:List S44) (fr:ByteArray) (rc:List S69) (i:ByteArray) (b:List Int) (me:ByteArray):Prop where
 hr:szR r
 hfr:fr.size≤2000000
 hrc:rc.length≤2000000
 had:∀ x∈rc,x.Address.size≤2000000
 hi:i.size≤1999000
 hb:b.length≤2000000
 hme:me.size≤2000000
def atR (r:List S44) (fr:ByteArray):S44:=r.getD (lb r fr) (q9h.dec [])
noncomputable def vld (r:List S44) (fr:ByteArray) (rc:List S69) (i:ByteArray) (f:List S57) (b:List Int) (me t:ByteArray) (now:Int):Int×Int :=
 if (rfL r).1≠0 then rfL r else if (MV f b).1≠0 then ((MV f b).1,-2) else if (EV fr rc i).1≠0 then ((EV fr rc i).1,-3) else if addrB me=false then (10,-4) else
 if (4000:Int)<t.size then (1,-5) else if tim now=false then (3,-6) else if atB r fr=true∧now<(atR r fr).At then (19,(lb r fr:Int)) else (0,0)
theorem keyO {α:Type} (o:Option α) (T:α):Ok o (fun r=>r=T)→o=some T:=by rintro ⟨r,h,rfl⟩;exact h
theorem qca (a b:Int):Ok (Option.bind (q4s a b) fun r=>some (r.1,r.2)) fun r=>r=(a,b):=qmy (qcb _ _) fun r hr=>qn2 (by subst hr;rfl)
theorem none_e:Ok (Option.bind q5t fun r=>some (r.1,r.2)) fun r=>r=(0,0):=qmy qms fun r hr=>qn2 (by subst hr;rfl)
theorem qwt {r:List S44} {fr:ByteArray} {rc:List S69} {i:ByteArray} {b:List Int} {me:ByteArray} (h:VArg r fr rc i b me) (f:List S57) (t:ByteArray) (now:Int) :
  qwq r fr rc i f b me t now=some (vld r fr rc i f b me t now):=qwp (by
 unfold qwr
 refine keyO _ _ ?_
 simp only [EC.decL_encL,EC.isL_encL,EC.encL_length,qy7,q3o]
 refine qn1 rfl (qmy (qn0 (qwu r h.hr)) fun r0 hr0=>qmy (qn0 (qc9 _ _)) fun r1 hr1=>?_)
 subst hr0
 subst hr1
 unfold vld
 refine qmz (fun g=>qn2 ?_) (fun g=>?_)
 ·rw [if_pos (by simpa using g)]
 have g0:(rfL r).1=0:=by simpa using g
 rw [if_neg (by simpa using g0)]
 obtain ⟨q1,q2,q3⟩:=rfL_ok g0
 refine qn1 rfl (qn1 rfl (qmy (qn0 (mv_s f b h.hb).1) fun r0 hr0=>qmy (qn0 (qc9 _ _)) fun r1 hr1=>?_))
 subst hr0
 subst hr1
 refine qmz (fun g=>?_) (fun g=>?_)
 ·rw [if_pos (by simpa using g)]
  exact qca _ _
 rw [if_neg (by simpa using g)]
 refine qn1 rfl (qmy (qn0 (ev_s fr rc i h.hfr h.hrc h.had)) fun r0 hr0=>qmy (qn0 (qc9 _ _)) fun r1 hr1=>?_)
 subst hr0
 subst hr1
 refine qmz (fun g=>?_) (fun g=>?_)
 ·rw [if_pos (by simpa using g)]
  exact qca _ _
 rw [if_neg (by simpa using g)]
 refine qn1 rfl (qmy (qn0 (find_s q2 (by omega) fr)) fun r6 hr6=>qmy (qn0 (addr_x me h.hme)) fun r7 hr7=>?_)
 subst hr6
 subst hr7
 refine qmz (fun g=>?_) (fun g=>?_)
 ·rw [if_pos (by simpa using g)]
  exact qca _ _
 rw [if_neg (by simpa using g)]
 refine qmz (fun g=>?_) (fun g=>?_)
 ·rw [if_pos (of_decide_eq_true g)]
  exact qca _ _
 rw [if_neg (of_decide_eq_false g)]
 refine qmy (qn0 (time_s now)) fun r8 hr8=>?_
 subst hr8
 refine qmz (fun g=>?_) (fun g=>?_)
 ·rw [if_pos (by simpa using g)]
  exact qca _ _
 rw [if_neg (by simpa using g)]
 refine qmz (fun g=>?_) (fun g=>?_)
 ·have g:atB r fr=true:=by simpa using g
  obtain ⟨g1,g2⟩:=q3m g
  simp only [Int.toNat_natCast]
  refine qn1 (by simp) (qn1 (by simp [g1]) (qmz (fun g3=>?_) (fun g3=>?_)))
  ·rw [if_pos ⟨g,of_decide_eq_true g3⟩]
   exact qca _ _
  ·rw [if_neg (fun g4=>(of_decide_eq_false g3) g4.2)]
   exact none_e
 ·have g:atB r fr=false:=by simpa using g
  rw [if_neg (fun g4=>by rw [g] at g4;cases g4.1)]
  exact none_e)
structure VOk (r:List S44) (fr:ByteArray) (rc:List S69) (i:ByteArray) (f:List S57) (b:List Int) (me t:ByteArray) (now:Int):Prop where
 len:r.length≤300
 hsrt:srt r
 hall:∀ x∈r,addrB x.Sender=true∧tim x.At=true
 hdr:HdrOk f
 txt:t.size≤4000
 tnow:tim now=true
 le:atB r fr=true→(atR r fr).At≤now
theorem vld_ok {r:List S44} {fr:ByteArray} {rc:List S69} {i:ByteArray} {b:List Int} {me:ByteArray} (h:VArg r fr rc i b me) {f:List S57} {t:ByteArray} {now:Int} (h0:(vld r fr rc i f b me t now).1=0):VOk r fr rc i f b me t now∧vld r fr rc i f b me t now=(0,0):=by
 unfold vld at h0 ⊢
 by_cases g1:(rfL r).1≠0
 ·rw [if_pos g1] at h0;exact absurd h0 g1
 rw [if_neg g1] at h0 ⊢
 by_cases g2:(MV f b).1≠0
 ·rw [if_pos g2] at h0;exact absurd h0 g2
 rw [if_neg g2] at h0 ⊢
 by_cases g3:(EV fr rc i).1≠0
 ·rw [if_pos g3] at h0;exact absurd h0 g3
 rw [if_neg g3] at h0 ⊢
 by_cases g4:addrB me=false
 ·rw [if_pos g4] at h0;cases h0
 rw [if_neg g4] at h0 ⊢
 by_cases g5:(4000:Int)<t.size
 ·rw [if_pos g5] at h0;cases h0
 rw [if_neg g5] at h0 ⊢
 by_cases g6:tim now=false
 ·rw [if_pos g6] at h0;cases h0
 rw [if_neg g6] at h0 ⊢
 by_cases g7:atB r fr=true∧now<(atR r fr).At
 ·rw [if_pos g7] at h0;cases h0
 rw [if_neg g7]
 obtain ⟨q1,q2,q3⟩:=rfL_ok (by simpa using g1)
 exact ⟨⟨q1,q2,q3,(mv_s f b h.hb).2 (by simpa using g2),by omega,by simpa using g6,fun g8=>by
  have:¬ now<(atR r fr).At:=fun g9=>g7 ⟨g8,g9⟩
  omega⟩,rfl⟩
theorem q80 (l:List S44) (hl:l.length≤300):q3h l=some (l.length,l):=by
 cases l with
 |nil=>exact q3g
 |cons x t =>
  refine q3f ?_
  unfold q3i
  refine keyO _ _ ?_
  simp only [EC.decL_encL,EC.isL_encL,EC.encL_length,all_44]
  exact qn1 rfl (qn1 (by simp only [List.length_cons] at *;simp;omega) (qn1 rfl (qn2 rfl)))
theorem len_rp (l:List S44) {k:Nat} (h:k<l.length):((q9h.encL l).getD k []).length=2:=by rw [EC.getD_lt _ _ h];rfl
def oldR (now:Int) (x:S44):Bool:=decide (604800≤IntKind.i64.wrap (now - x.At))
def newR (now:Int) (x:S44):Bool:=!oldR now x
theorem old_s (x:S44) (now:Int):qwe x.Sender x.At now=some (oldR now x):=qwd rfl
theorem q34 (l:List S44):(q9h.encL l).all repB=true:=by
 induction l with
 |nil=>rfl
 |cons x l ih =>
  have e:q9h.encL (x::l)=q9h.enc x::q9h.encL l:=rfl
  rw [e,List.all_cons,ih];rfl
theorem qxi (l:List S44):((q9h.encL l).map zeroR).all repB=true:=by
 induction l with
 |nil=>rfl
 |cons x l ih =>
  have e:q9h.encL (x::l)=q9h.enc x::q9h.encL l:=rfl
  rw [e,List.map_cons,List.all_cons,ih];rfl
theorem qce (now:Int) (l:List S44):(q9h.encL l).filter (newB now)=q9h.encL (l.filter (newR now)):=by
 induction l with
 |nil=>rfl
 |cons x l ih =>
  have e1:q9h.encL (x::l)=q9h.enc x::q9h.encL l:=rfl
  have e2:newB now (q9h.enc x)=newR now x:=rfl
  rw [e1,List.filter_cons,List.filter_cons,e2,ih]
  split <;> rfl
theorem q9p (l:List S44):(q9h.encL l).isEmpty=l.isEmpty:=by cases l <;> rfl
theorem qxh (l:List S44):((q9h.encL l).map zeroR).isEmpty=l.isEmpty:=by cases l <;> rfl
theorem qn4 (a:ByteArray) (n:Int):([[C.str a,C.int .i64 n]]:List (List C))=q9h.encL [⟨a,n⟩]:=rfl
abbrev MailT:=ByteArray×List S69×ByteArray×List S57×List Int
def eB:ByteArray:=ByteArray.mk (List.toArray [])
def nulM:MailT:=(eB,[],eB,[],[])
def repM (f:List S57) (fr i me t:ByteArray):MailT:=(eB,[⟨fr,0⟩],cRep++i,repF f fr me,bodyF t)
def dueB (r:List S44) (fr:ByteArray) (f:List S57) (me:ByteArray) (now:Int):Bool:=!em fr&&(!(lowL (L fr)==lowL (L me))&&(!automB f&&!(atB r fr&&!oldR now (atR r fr))))
def keepR (r:List S44) (now:Int):List S44:=r.filter (newR now)
def insR (q:List S44) (fr:ByteArray) (now:Int):List S44:=q.take (lb q fr)++([⟨fr,now⟩]++q.drop (lb q fr))
def setR (r:List S44) (fr:ByteArray) (now:Int):List S44:=r.set (lb r fr) { atR r fr with At:=now }
abbrev OutT:=List S44×MailT×Bool×(Int×Int)
noncomputable def ansT (r:List S44) (fr i:ByteArray) (f:List S57) (me t:ByteArray) (now:Int):OutT :=
 if (EV eB [⟨fr,0⟩] (cRep++i)).1≠0 then ([],nulM,false,((EV eB [⟨fr,0⟩] (cRep++i)).1,-7)) else if (MV (repF f fr me) (bodyF t)).1≠0 then ([],nulM,false,((MV (repF f fr me) (bodyF t)).1,-7)) else
 if atB r fr=true then (setR r fr now,repM f fr i me t,true,(0,0)) else if (keepR r now).length=300 then ([],nulM,false,(2,-1)) else (insR (keepR r now) fr now,repM f fr i me t,true,(0,0))
noncomputable def ans (r:List S44) (fr:ByteArray) (rc:List S69) (i:ByteArray) (f:List S57) (b:List Int) (me t:ByteArray) (now:Int):OutT :=
 if (vld r fr rc i f b me t now).1≠0 then ([],nulM,false,vld r fr rc i f b me t now) else if dueB r fr f me now=false then (r,nulM,false,(0,0)) else ansT r fr i f me t now
theorem q6h (t:ByteArray) (ht:t.size≤4000):(bodyF t).length≤2000000:=by
 unfold bodyF
 rw [List.length_map]
 have:=qke (L t)
 rw [qj] at this
 omega
theorem qr0 {r:List S44} (h:srt r) (now:Int):srt (keepR r now):=List.Pairwise.filter _ h
theorem qje (r:List S44) (now:Int):(keepR r now).length≤r.length:=List.length_filter_le _ _
theorem ans_s {r : List S44} {fr : ByteArray} {rc : List S69} {i : ByteArray} {b : List Int} {me : ByteArray} (h : VArg r fr rc i b me) (f : List S57) (t : ByteArray) (now : Int) :
    quy r fr rc i f b me t now = some (ans r fr rc i f b me t now) := qux (by
  unfold quz
  refine keyO _ _ ?_
  simp only [EC.decL_encL, EC.isL_encL, EC.encL_length, qy7, q3n, q3o, qq0, qxx]
  refine qn1 rfl (qn1 rfl (qn1 rfl (qn1 rfl (qmy (qn0 (qwt h f t now)) fun r0 hr0 => qmy (qn0 (qc9 _ _)) fun r1 hr1 => ?_))))
  subst hr0
  subst hr1
  unfold ans
  refine qmz (fun g => qn2 ?_) (fun g => ?_)
  · rw [if_pos (by simpa using g)]; rfl
  have g0 : (vld r fr rc i f b me t now).1 = 0 := by simpa using g
  obtain ⟨v, _⟩ := vld_ok h g0
  rw [if_neg (by simpa using g0)]
  refine qn1 rfl (qmy (qn0 (find_s v.hsrt (by have := v.len; omega) fr)) fun r2 hr2 => qn1 rfl (qmy (qn0 (q80 r v.len)) fun r3 hr3 => ?_))
  subst hr2
  subst hr3
  have hn : ∀ {p : OutT → Prop}, p (r, nulM, false, (0, 0)) → Ok (Option.bind q5t fun x => gdE true (some (r, ((ByteArray.mk (List.toArray [])), ([] : List S69), (ByteArray.mk (List.toArray [])), ([] : List S57), ([] : List Int)), false, (x.1, x.2)))) p := by
    intro p hp
    exact qmy qms fun x hx => qn1 rfl (qn2 (by subst hx; exact hp))
  have nd : dueB r fr f me now = false → (r, nulM, false, ((0 : Int), (0 : Int))) = (if dueB r fr f me now = false then (r, nulM, false, (0, 0)) else ansT r fr i f me t now) := by
    intro hd; rw [if_pos hd]
  refine qmz (fun g1 => ?_) (fun g1 => hn (nd ?_))
  · have g1 : em fr = false := by simpa using g1
    refine qmy (qn0 (same_s fr me (by have := h.hfr; omega) (by have := h.hme; omega))) fun r4 hr4 => qmz (fun g2 => ?_) (fun g2 => hn (nd ?_))
    · have g2 : (lowL (L fr) == lowL (L me)) = false := by rw [← hr4]; simpa using g2
      refine qn1 rfl (qmy (qn0 (q3v v.hdr)) fun r5 hr5 => qmz (fun g3 => ?_) (fun g3 => hn (nd ?_)))
      · have g3 : automB f = false := by rw [← hr5]; simpa using g3
        have hrep := qon fr rc i v.hdr b me t h.hfr (by have := h.hi; omega) h.hme (by have := v.txt; omega)
        have hi6 : (cRep ++ i).size ≤ 2000000 := by rw [ByteArray.size_append]; have : cRep.size = 6 := rfl; have := h.hi; omega
        have hev := ev_s eB [⟨fr, 0⟩] (cRep ++ i) (by decide) (by simp) (fun x hx => by
          have : x = ⟨fr, 0⟩ := by simpa using hx
          rw [this]; exact h.hfr)
        have hmv := (mv_s (repF f fr me) (bodyF t) (q6h t v.txt)).1
        have hf2 : qw2 r fr = some ((lb r fr : Int), atB r fr) := find_s v.hsrt (by have := v.len; omega) fr
        refine qmz (fun g4 => ?_) (fun g4 => ?_)
        · have g4 : atB r fr = true := by simpa using g4
          obtain ⟨a1, a2⟩ := q3m g4
          simp only [Int.toNat_natCast]
          refine qn1 (by simp) (qn1 (by simp [a1]) (qmy (qn0 (old_s _ now)) fun r6 hr6 => qmz (fun g5 => hn (nd ?_)) (fun g5 => ?_)))
          · have g5 : oldR now (atR r fr) = false := by rw [show oldR now (atR r fr) = r6 from hr6.symm]; simpa using g5
            unfold dueB
            rw [g4, g5]; simp
          · have g5 : oldR now (atR r fr) = true := by rw [show oldR now (atR r fr) = r6 from hr6.symm]; simpa using g5
            have hd : dueB r fr f me now = true := by unfold dueB; rw [g1, g2, g3, g4, g5]; rfl
            rw [hd, if_neg (by decide)]
            refine qn1 rfl (qn1 rfl (qn1 rfl (qmy (qn0 hrep) fun r7 hr7 => ?_)))
            subst hr7
            refine qn1 rfl ?_
            refine qmy (qn0 hev) fun r8 hr8 => qmy (qn0 (qc9 _ _)) fun r9 hr9 => ?_
            subst hr8
            subst hr9
            unfold ansT
            refine qmz (fun g6 => ?_) (fun g6 => ?_)
            · have g6 : (EV eB [⟨fr, 0⟩] (cRep ++ i)).1 = 0 := by simpa using g6
              rw [if_neg (by simpa using g6)]
              refine qn1 rfl (qn1 rfl (qmy (qn0 hmv) fun r10 hr10 => qmy (qn0 (qc9 _ _)) fun r11 hr11 => ?_))
              subst hr10
              subst hr11
              refine qmz (fun g7 => ?_) (fun g7 => ?_)
              · rw [if_pos (by simpa using g7)]
                exact qmy (qcb _ _) fun x hx => qn2 (by subst hx; rfl)
              rw [if_neg (by simpa using g7)]
              refine qmz (fun g8 => ?_) (fun g8 => ?_)
              · rw [if_pos g4]
                refine qn1 (by simp; omega) (qn1 (by rw [len_rp r a1]; simp [a1]) (qmy qms fun x hx => qn1 rfl (qn1 rfl (qn1 rfl (qn1 rfl (qn2 ?_))))))
                subst hx
                rfl
              · exact absurd g8 (by rw [g4]; intro h9; cases h9)
            · have g6 : (EV eB [⟨fr, 0⟩] (cRep ++ i)).1 ≠ 0 := by simpa using g6
              rw [if_pos g6]
              refine qmy (qn0 (qc9 _ _)) fun r10 hr10 => ?_
              subst hr10
              refine qmz (fun g7 => qmy (qcb _ _) fun x hx => qn2 (by subst hx; rfl)) (fun g7 => absurd g7 (by simpa using g6))
        · have g4 : atB r fr = false := by simpa using g4
          have hd : dueB r fr f me now = true := by unfold dueB; rw [g1, g2, g3, g4]; rfl
          rw [hd, if_neg (by decide)]
          refine qn1 rfl (qn1 rfl (qn1 rfl (qmy (qn0 hrep) fun r7 hr7 => ?_)))
          subst hr7
          refine qn1 rfl ?_
          refine qmy (qn0 hev) fun r8 hr8 => qmy (qn0 (qc9 _ _)) fun r9 hr9 => ?_
          subst hr8
          subst hr9
          unfold ansT
          refine qmz (fun g6 => ?_) (fun g6 => ?_)
          · have g6 : (EV eB [⟨fr, 0⟩] (cRep ++ i)).1 = 0 := by simpa using g6
            rw [if_neg (by simpa using g6)]
            refine qn1 rfl (qn1 rfl (qmy (qn0 hmv) fun r10 hr10 => qmy (qn0 (qc9 _ _)) fun r11 hr11 => ?_))
            subst hr10
            subst hr11
            refine qmz (fun g7 => ?_) (fun g7 => ?_)
            · rw [if_pos (by simpa using g7)]
              exact qmy (qcb _ _) fun x hx => qn2 (by subst hx; rfl)
            rw [if_neg (by simpa using g7)]
            refine qmz (fun g8 => ?_) (fun g8 => ?_)
            · exact absurd g8 (by rw [g4]; intro h9; cases h9)
            · rw [if_neg (by rw [g4]; decide)]
              rw [q34]
              simp only [qce, q9p, qxh, qxi, EC.encL_length, EC.isL_encL, EC.decL_encL]
              have hk : r.filter (newR now) = keepR r now := rfl
              rw [hk]
              have hkl := qje r now
              have hl3 := v.len
              refine qn1 rfl (qmz (fun g9 => ?_) (fun g9 => ?_))
              · have g9 : (keepR r now).isEmpty = true ∧ r.isEmpty = false := by simpa using g9
                have g10 : keepR r now = [] := by simpa using g9.1
                have hfe := find_s (l := ([] : List S44)) .nil (by simp) fr
                refine qmy (qn0 hfe) fun x hx => ?_
                subst hx
                refine qn1 (by rw [g9.2]; rfl) (qmy qms fun x hx => qn1 rfl (qn1 rfl (qn1 rfl (qn2 ?_))))
                subst hx
                rw [g10, if_neg (by decide)]; rfl
              · refine qmz (fun g10 => ?_) (fun g10 => ?_)
                · have g10 : (keepR r now).length = 300 := by have : ((keepR r now).length : Int) = 300 := by simpa using g10
                                                              omega
                  rw [if_pos g10]
                  exact qmy (qcb _ _) fun x hx => qn2 (by subst hx; rfl)
                · have g10 : (keepR r now).length ≠ 300 := by intro h9; rw [h9] at g10; cases g10
                  rw [if_neg g10]
                  refine qn1 rfl (qmy (qn0 (find_s (qr0 v.hsrt now) (by omega) fr)) fun x hx => ?_)
                  subst hx
                  have hlb := lb_le (keepR r now) fr
                  refine qn1 (by rw [q34]; simp; refine ⟨⟨?_, hlb⟩, by omega⟩; rfl) (qmy qms fun x hx => ?_)
                  subst hx
                  simp only [Int.toNat_natCast, qn4, qf, qd, q9o, EC.isL_encL, EC.decL_encL]
                  exact qn1 rfl (qn1 rfl (qn1 rfl (qn1 rfl (qn2 rfl))))
          · have g6 : (EV eB [⟨fr, 0⟩] (cRep ++ i)).1 ≠ 0 := by simpa using g6
            rw [if_pos g6]
            refine qmy (qn0 (qc9 _ _)) fun r10 hr10 => ?_
            subst hr10
            refine qmz (fun g7 => qmy (qcb _ _) fun x hx => qn2 (by subst hx; rfl)) (fun g7 => absurd g7 (by simpa using g6))
      · have g3 : automB f = true := by rw [← hr5]; simpa using g3
        unfold dueB
        rw [g3]; simp
    · have g2 : (lowL (L fr) == lowL (L me)) = true := by rw [← hr4]; simpa using g2
      unfold dueB
      rw [g2]; simp
  · have g1 : em fr = true := by simpa using g1
    unfold dueB
    rw [g1]; simp)
set_option maxRecDepth 1000000 in
theorem qpv:callD Tryz.prog (fzL lv) X0.c (execD Tryz.prog lv X0 200) 5 []=some (.c (.bool true),[]):=by kernel_rfl
def scr_ca:Cod (List V) Unit:=qjm
def scr_cr:Cod (V×List B) Bool:=cFstU (cPair (vC cBool) qjm)
def scrS:Option Bool:=some true
theorem qpu (x:Unit) (r:Bool) (h:scrS=some r):Call Tryz.prog lv X0 5 (scr_ca.enc x)=some (scr_cr.enc r):=by
 cases r with
 |true=>exact qa qpv
 |false=>unfold scrS at h;cases h
noncomputable def scr_e:=entS Tryz.prog lv X0 5 [] scr_ca scr_cr (fun _=>scrS) qpu
noncomputable def tabk:=scr_e::qu5
end Go.Proofs.YtmacbkjehjbjeaaGreatDoor
