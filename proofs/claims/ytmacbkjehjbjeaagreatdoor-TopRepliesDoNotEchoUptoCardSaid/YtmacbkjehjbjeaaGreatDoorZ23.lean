/- Addresses and envelopes: what the checks answer. -/
import Derived.Test.YtmacbkjehjbjeaaGreatDoorZ22
namespace Go.Proofs.YtmacbkjehjbjeaaGreatDoor
open Go.RowKit
theorem qgg (s p:ByteArray):Ok (qrq s p) fun _=>True:=.via qrp (by
 unfold qrr
 refine qmy (P:=fun _=>True) (.via qs7 ?_) fun r _=>qn2 trivial
 unfold qs9
 refine qmz (fun h=>qn1 ?_ (qn2 trivial)) (fun _=>qn2 trivial)
 simp at h ⊢
 exact h)
theorem qgo (s p:ByteArray) (hs:s.size≤2000000):Ok (qrw s p) fun _=>True:=.via qrv (by
 unfold qrx
 refine qmy (P:=fun _=>True) (.via qsd ?_) fun r _=>qn2 trivial
 unfold qsf
 refine qmz (fun h=>qn1 ?_ (qn2 trivial)) (fun _=>qn2 trivial)
 have h:(s.size:Int)≥(p.size:Int):=by simpa using h
 rw [qxb (by omega)]
 simp
 omega)
theorem qme (s:ByteArray):Ok (q5n s) fun _=>True:=.via q5m (by
 unfold q5o
 refine qmz (fun _=>qmz (fun h=>?_) (fun _=>qn2 trivial)) (fun _=>qn2 trivial)
 have h:(s.size:Int)≤60:=by simpa using h
 exact qmy (qn0 (q32 s (by omega))) fun r _=>qn2 trivial)
theorem q99 (s:ByteArray):Ok (qab s) fun r=>r=true→s.size≤60:=.via qaa (by
 unfold qac
 refine qmz (fun _=>qmz (fun h=>?_) (fun _=>qn2 (fun h=>by cases h))) (fun _=>qn2 (fun h=>by cases h))
 have h:(s.size:Int)≤60:=by simpa using h
 have hs:s.size≤60:=by omega
 refine qmy (qn0 (q1k s (by omega))) fun r _=>?_
 refine qmz (fun _=>qmy (qgg _ _) fun r1 _=>qmz (fun _=>qmy (qgo _ _ (by omega)) fun r2 _=>qmz (fun _=>?_) (fun _=>qn2 (fun _=>hs))) (fun _=>qn2 (fun _=>hs))) (fun _=>qn2 (fun _=>hs))
 refine qmy (P:=fun _=>True) ⟨_,by unfold contP;rw [if_pos (by omega)],trivial⟩ fun r3 _=>qn2 (fun _=>hs))
theorem q8q (s sep:List UInt8) (h:(Lib.cut s sep).2.2=true):(Lib.cut s sep).1.length+sep.length+(Lib.cut s sep).2.1.length=s.length:=by
 unfold Lib.cut at *
 split at h
 ·rename_i h0
  rw [if_pos h0]
  have:=Lib.index_room s sep h0
  simp only [List.length_drop,List.length_take]
  omega
 ·cases h
theorem qqw (s:ByteArray) (hs:s.size≤2000000):Ok (qb7 s) fun r=>r.2.2=true→s.size≤121:=.via qb6 (by
 unfold qb8
 have hc:=q8q s.data.toList [64]
 refine qmy (P:=fun r:ByteArray×ByteArray×Bool=>r.2.2=true→r.1.size+1+r.2.1.size=s.size) ⟨_,by unfold cutP;rw [if_pos (by omega)],fun h=>?_⟩ fun r hr=>?_
 ·have:=hc h
  have e:s.data.toList.length=s.size:=by rw [Array.length_toList];rfl
  rw [e] at this
  exact this
 ·refine qmz (fun hk=>?_) (fun _=>qn2 (fun h=>by cases h))
  have hk:=hr (by simpa using hk)
  refine qmz (fun _=>qmz (fun h=>?_) (fun _=>qn2 (fun h=>by cases h))) (fun _=>qn2 (fun h=>by cases h))
  have h:(r.1.size:Int)≤60:=by simpa using h
  refine qmy (qn0 (q2k r.1 (by omega))) fun r1 _=>qmz (fun _=>?_) (fun _=>qn2 (fun h=>by cases h))
  exact qmy (q99 _) fun r2 h2=>qn2 (fun h3=>by have:=h2 h3;omega))
theorem qt (s:ByteArray) (hs:s.size≤2000000):Ok (q9z s) fun r=>r=true→s.size≤121:=.via q9y (by
 unfold qa0
 exact qmy (qqw s hs) fun r h=>qn2 h)
theorem qmw (n:Int):Ok (qah n) fun _=>True:=.via qag (by
 unfold qai
 exact qmz (fun _=>qn2 trivial) (fun _=>qn2 trivial))
theorem qij (l:List S69) (hl:l.length≤2000000) (f:ByteArray) (n:Int):∀ m k:Nat,k+m=l.length→Ok (qib l f n l.length k) fun _=>True:=by
 intro m
 induction m with
 |zero =>
  intro k hk
  refine .via qid ?_
  unfold qii
  refine qmz (fun h=>?_) (fun _=>qn1 (by simp [EC.isL_encL]) (qn2 trivial))
  have:=of_decide_eq_true h
  omega
 |succ m ih =>
  intro k hk
  have hlt:k<l.length:=by omega
  have e2:IntKind.i64.wrap ((k:Int)+1)=((k+1:Nat):Int):=by rw [qxb (by omega)];rfl
  refine .via qid ?_
  unfold qii
  simp only [EC.decL_encL,EC.isL_encL,EC.encL_length,isE_69,q178,q179,Int.toNat_natCast,e2]
  refine qmz (fun h=>?_) (fun h=>?_)
  ·refine qn1 (by simp) (qn1 (by simp [hlt]) ?_)
   refine qmy (P:=fun _=>True) (.via qo3 (qn2 trivial)) fun r _=>qmz (fun _=>qn2 trivial) (fun _=>qn1 rfl (ih (k+1) (by omega)))
  ·have:=of_decide_eq_false h
   omega
theorem qgl (l:List S69) (hl:l.length≤2000000) (f:ByteArray) (n:Int):Ok (qgm l f n) fun _=>True:=.via qgk (by
 unfold qgn
 simp only [EC.decL_encL,EC.isL_encL]
 refine qn1 rfl (qmy (P:=fun _=>True) (.via qia ?_) fun r _=>qn2 trivial)
 unfold qil
 simp only [EC.decL_encL,EC.isL_encL,EC.encL_length]
 refine qn1 rfl (qmy (qij l hl f n l.length 0 (by omega)) ?_)
 rintro (r|r) _
 ·exact qn2 trivial
 ·exact qn2 trivial)
theorem qo6 (l:List S69) (hl:l.length≤2000000) (ha:∀ x∈l,x.Address.size≤2000000) (c d:Int):∀ m k:Nat,k+m=l.length→Ok (qan l l l.length k c d) fun x=>Sum.elim (fun r=>r.2.1≠0) (fun _=>∀ x∈l.drop k,x.Address.size≤121) x:=by
 intro m
 induction m with
 |zero =>
  intro k hk
  refine .via qap ?_
  unfold qau
  refine qmz (fun h=>?_) (fun _=>qn1 (by simp [EC.isL_encL]) (qn1 (by simp [EC.isL_encL]) (qn2 ?_)))
  ·have:=of_decide_eq_true h
   omega
  ·rw [List.drop_eq_nil_of_le (by omega)]
   intro x hx;cases hx
 |succ m ih =>
  intro k hk
  have hlt:k<l.length:=by omega
  have e2:IntKind.i64.wrap ((k:Int)+1)=((k+1:Nat):Int):=by rw [qxb (by omega)];rfl
  refine .via qap ?_
  unfold qau
  simp only [EC.decL_encL,EC.isL_encL,EC.encL_length,isE_69,q178,q179,all_69,Int.toNat_natCast,e2,qf,qd]
  refine qmz (fun h=>?_) (fun h=>?_)
  ·refine qn1 (by simp) (qn1 (by simp [hlt]) ?_)
   rw [qg7 hlt]
   refine qmy (qt _ (ha _ (List.getElem_mem hlt))) fun r0 hr0=>qmz (fun _=>qmy (qcb _ _) fun r1 hr1=>qn2 ?_) (fun hb=>?_)
   ·subst hr1
    intro h;cases h
   ·refine qmy (qmw _) fun r1 _=>qmz (fun _=>qmy (qcb _ _) fun r2 hr2=>qn2 ?_) (fun _=>?_)
    ·subst hr2
     intro h;cases h
    ·refine qn1 (by simp;omega) (qn1 (by simp []) ?_)
     refine qn1 rfl (qmy (qgl _ (by simp;omega) _ _) fun r2 _=>qmz (fun _=>qmy (qcb _ _) fun r3 hr3=>qn2 ?_) (fun _=>qn1 rfl (qn1 rfl ((ih (k+1) (by omega)).mono fun x hx=>?_))))
     ·subst hr3
      intro h;cases h
     ·rcases x with x|x
      ·exact hx
      ·show ∀ y∈l.drop k,y.Address.size≤121
       rw [q9e hlt]
       intro y hy
       rcases List.mem_cons.1 hy with rfl|hy
       ·exact hr0 (by simpa using hb)
       ·exact hx y hy
  ·have:=of_decide_eq_false h
   omega
theorem qo7 (l:List S69) (hl:l.length≤2000000) (ha:∀ x∈l,x.Address.size≤2000000):Ok (qav l) fun r=>r.1=0→∀ x∈l,x.Address.size≤121:=.via qam (by
 unfold qaw
 simp only [EC.decL_encL,EC.isL_encL,EC.encL_length]
 refine qn1 rfl (qn1 rfl (qmy (qo6 l hl ha 0 0 l.length 0 (by omega)) ?_))
 rintro (r|r) hr
 ·exact qn2 (fun h=>absurd h hr)
 ·refine qmy qms fun r2 hr2=>qn2 ?_
  intro _
  rw [List.drop_zero] at hr
  exact hr)
def envB (f:ByteArray) (l:List S69):Prop:=f.size≤121∧l.length≤60∧∀ x∈l,x.Address.size≤121
theorem env_ok (f:ByteArray) (l:List S69) (i:ByteArray) (hf:f.size≤2000000) (hl:l.length≤2000000) (ha:∀ x∈l,x.Address.size≤2000000):Ok (qbd f l i) fun r=>r.1=0→envB f l:=.via qbc (by
 unfold qbe
 simp only [EC.decL_encL,EC.isL_encL,EC.encL_length,qxx]
 have rest:f.size≤121→l.length≤60→Ok (brE ((!em i)==true) (Option.bind (q5n i) fun r0=>brE (!r0) (Option.bind (q4s 10 (-12)) fun r1=>some (r1.1,r1.2)) (gdE true<| Option.bind (qav l) fun r1=>some (r1.1,r1.2))) (gdE true<| Option.bind (qav l) fun r0=>some (r0.1,r0.2))) fun r=>r.1=0→envB f l:=by
  intro h1 h2
  have fin:Ok (gdE true<| Option.bind (qav l) fun r0=>some (r0.1,r0.2)) fun r=>r.1=0→envB f l:=qn1 rfl (qmy (qo7 l hl ha) fun r hr=>qn2 fun h=>⟨h1,h2,hr h⟩)
  refine qmz (fun _=>qmy (qme _) fun r _=>qmz (fun _=>qmy (qcb _ _) fun r1 hr1=>qn2 ?_) (fun _=>fin)) (fun _=>fin)
  subst hr1
  intro h;cases h
 have bad:∀ a b:Int,a≠0→Ok (Option.bind (q4s a b) fun r1=>some (r1.1,r1.2)) fun r=>r.1=0→envB f l:=fun a b h0=>qmy (qcb _ _) fun r hr=>qn2 (by subst hr;exact fun h=>absurd h h0)
 have rest2:f.size≤121→Ok (brE (decide ((l.length:Int)<1)==false) (brE (decide ((l.length:Int)>60)) (Option.bind (q4s 2 (-11)) fun r1=>some (r1.1,r1.2)) (brE ((!em i)==true) (Option.bind (q5n i) fun r0=>brE (!r0) (Option.bind (q4s 10 (-12)) fun r1=>some (r1.1,r1.2)) (gdE true<| Option.bind (qav l) fun r1=>some (r1.1,r1.2))) (gdE true<| Option.bind (qav l) fun r0=>some (r0.1,r0.2)))) (Option.bind (q4s 2 (-11)) fun r1=>some (r1.1,r1.2))) fun r=>r.1=0→envB f l:=fun h1 =>
  qmz (fun _=>qmz (fun _=>bad _ _ (by decide)) (fun h=>rest h1 (by have:=of_decide_eq_false h;omega))) (fun _=>bad _ _ (by decide))
 refine qmz (fun _=>qmy (qt f hf) fun r hr=>qmz (fun _=>bad _ _ (by decide)) (fun h=>rest2 (hr (by simpa using h)))) (fun h=>rest2 ?_)
 have he:em f=true:=by cases h2:em f with|true=>rfl|false=>rw [h2] at h;cases h
 rw [q9n] at he
 have:=of_decide_eq_true he
 omega)
end Go.Proofs.YtmacbkjehjbjeaaGreatDoor
namespace Go.Proofs.YtmacbkjehjbjeaaGreatDoor
open Go.RowKit
theorem nb_low (b:UInt8):nb (lowB b)=lowI (nb b):=by
 have h:=ql0 (qyo b).1 (qyo b).2
 unfold lowB ub
 generalize lowI (nb b)=c at h
 unfold nb
 rw [UInt8.toNat_ofNat']
 omega
theorem qcy (c:Int):fnB (lowI c)=fnB c:=by
 unfold lowI fnB
 split
 ·rw [Bool.eq_iff_iff]
  simp
  omega
 ·rfl
theorem qd0 {a b:ByteArray} (h:lowL (L a)=lowL (L b)):fnameB a=fnameB b:=by
 have hl:(L a).length=(L b).length:=by
  have:=congrArg List.length h
  simpa [lowL] using this
 have hs:a.size=b.size:=by rw [←qj,←qj,hl]
 have hp:∀ s:ByteArray,(L s).all q20=(lowL (L s)).all q20:=by
  intro s
  unfold lowL
  rw [List.all_map]
  congr 1
  funext x
  show fnB (nb x)=fnB (nb (lowB x))
  rw [nb_low,qcy]
 unfold fnameB
 rw [q9n,q9n,hs,hp a,hp b,h]
def sm (n:ByteArray) (x:S57):Bool:=lowL (L x.Name)==lowL (L n)
def valsL (l:List S57) (n:ByteArray):List ByteArray:=(l.filter (sm n)).map fun x=>x.Value
theorem qwv (x:S57) (l:List S57) (n:ByteArray):valsL (x::l) n=if sm n x=true then x.Value::valsL l n else valsL l n:=by
 unfold valsL
 rw [List.filter_cons]
 split <;> rfl
theorem qga (l:List S57) (n:ByteArray) (hl:l.length≤60) (hn:n.size≤2000000) (hx:∀ x∈l,x.Name.size≤2000000) (c d:Int):∀ (m k:Nat) (acc:List ByteArray),k+m=l.length→acc.length≤k→Ok (qgv n acc.length l l.length k c d acc) fun x=>x.2.2=acc++valsL (l.drop k) n∧x.1.2.2.1=x.2.2.length:=by
 intro m
 induction m with
 |zero =>
  intro k acc hk ha
  refine .via qgx ?_
  unfold qh1
  simp only [EC.decL_encL,EC.isL_encL,EC.encL_length,qxp,qxr,qy8,q3p,q3q]
  refine qmz (fun h=>?_) (fun _=>qn1 rfl (qn1 rfl (qn2 ?_)))
  ·have:=of_decide_eq_true h
   omega
  ·rw [List.drop_eq_nil_of_le (by omega)]
   exact ⟨(List.append_nil _).symm,rfl⟩
 |succ m ih =>
  intro k acc hk ha
  have hlt:k<l.length:=by omega
  have e2:IntKind.i64.wrap ((k:Int)+1)=((k+1:Nat):Int):=by rw [qxb (by omega)];rfl
  refine .via qgx ?_
  unfold qh1
  simp only [EC.decL_encL,EC.isL_encL,EC.encL_length,qxp,qxr,qy8,q3p,q3q,Int.toNat_natCast,e2]
  refine qmz (fun h=>?_) (fun h=>?_)
  ·refine qn1 (by simp) (qn1 (by simp [hlt]) ?_)
   rw [qg7 hlt]
   have h1:=hx _ (List.getElem_mem hlt)
   refine qmy (qn0 (same_s l[k].Name n (by omega) (by omega))) fun r hr=>?_
   rw [q9e hlt,qwv]
   refine qmz (fun hb=>?_) (fun hb=>?_)
   ·rw [hr] at hb
    have hb:sm n l[k]=true:=hb
    rw [if_pos hb]
    refine qn1 (by simp;omega) (qn1 rfl (qn1 rfl ?_))
    have:=ih (k+1) (acc++[l[k].Value]) (by omega) (by simp;omega)
    rw [List.length_append] at this
    refine this.mono fun x h=>⟨by rw [h.1,List.append_assoc];rfl,h.2⟩
   ·rw [hr] at hb
    have hb:sm n l[k]=false:=hb
    rw [if_neg (by rw [hb];decide)]
    exact qn1 rfl (qn1 rfl (ih (k+1) acc (by omega) (by omega)))
  ·have:=of_decide_eq_false h
   omega
theorem qcz {n:ByteArray} (h:fnameB n=true):n.size≤60:=by
 unfold fnameB at h
 rw [Bool.and_eq_true,Bool.and_eq_true] at h
 have:=of_decide_eq_true h.2.1
 omega
structure HdrOk (l:List S57):Prop where
 val:∃ i,qhg l=some (0,i)
 len:l.length≤60
 all:∀ x∈l,fieldB x
theorem get_s {l:List S57} (h:HdrOk l) (n:ByteArray) (hn:n.size≤2000000):Ok (qh2 l n) fun r=>r.2=valsL l n∧r.1.1=r.2.length:=.via qgu (by
 obtain ⟨i,hv⟩:=h.val
 have hval:Ok (qhs l n) fun r=>(fnameB n=true→r.1=0)∧(fnameB n=false→r.1≠0):=.via qhr (by
  unfold qht
  simp only [EC.decL_encL,EC.isL_encL]
  refine qn1 rfl (qmy (qn0 hv) fun r hr=>?_)
  subst hr
  refine qmy (qn0 (qc9 _ _)) fun r1 hr1=>?_
  subst hr1
  refine qmz (fun h=>by cases h) (fun _=>?_)
  refine qmy (qi1 n) fun r2 hr2=>qmz (fun hb=>qmy (qcb _ _) fun r3 hr3=>qn2 ?_) (fun hb=>qmy qms fun r3 hr3=>qn2 ?_)
  ·subst hr3
   refine ⟨fun h=>?_,fun _=>by decide⟩
   rw [hr2,h] at hb;cases hb
  ·subst hr3
   refine ⟨fun _=>rfl,fun h=>?_⟩
   rw [hr2,h] at hb;cases hb)
 unfold qh3
 simp only [EC.decL_encL,EC.isL_encL,EC.encL_length,qe]
 refine qn1 rfl (qmy hval fun r0 hr0=>qmy (qn0 (qc9 _ _)) fun r1 hr1=>?_)
 subst hr1
 have hemp:fnameB n=false→valsL l n=[]:=by
  intro hf
  unfold valsL
  have:l.filter (sm n)=[]:=by
   rw [List.filter_eq_nil_iff]
   intro x hx hs
   have:=qd0 (a:=x.Name) (b:=n) (by simpa [sm] using hs)
   rw [(h.all x hx).1,hf] at this
   cases this
  rw [this];rfl
 refine qmz (fun hb=>qn2 ?_) (fun hb=>?_)
 ·have hf:fnameB n=false:=by
   cases hf:fnameB n with
   |true=>rw [hr0.1 hf] at hb;cases hb
   |false=>rfl
  exact ⟨(hemp hf).symm,rfl⟩
 ·refine qn1 rfl (qmy (qga l n h.len hn (fun x hx=>by have:=qcz (h.all x hx).1;omega) 0 0 l.length 0 [] (by omega) (by simp)) fun r2 hr2=>qmy qms fun r3 hr3=>qn1 rfl (qn2 ?_))
  rw [List.drop_zero,List.nil_append] at hr2
  exact hr2)
theorem bmap (s:ByteArray):List.map (fun (b:UInt8)=>[byteC b]) (Array.toList (ByteArray.data s))=q9i.encL (ints s):=q76 s
theorem q9o {τ:Type} (e:EC τ) (a b:List τ):e.encL a++e.encL b=e.encL (a++b):=by simp [EC.encL]
theorem q8k:([[(C.int Go.IntKind.u8 (13:Int))],[(C.int Go.IntKind.u8 (10:Int))]]:List (List C))=q9i.encL [13,10]:=rfl
theorem qkf (l:List S57) (t12 t13:Int) (b0:List S57) (b01:List Int) (b2:List ByteArray) (hb:b2.length≤100001) (hz:szB b2):∀ (m k:Nat) (b1:List Int),k+m=b2.length→b1.length+m*100002≤1000000000000 →
  Ok (qly b1.length l t12 t13 b2.length b2.length k b0 b01 b1 b2) fun x=>x.1.2.2.1=l∧x.1.2.2.2.1=t12∧x.1.2.2.2.2.1=t13∧x.2.1=(b0,b01)∧x.1.2.1=x.2.2.1.length∧x.1.2.1≤b1.length+m*100002:=by
 intro m
 induction m with
 |zero =>
  intro k b1 hk hs
  refine .via qm0 ?_
  unfold qm4
  simp only [EC.decL_encL,EC.isL_encL,EC.encL_length,qxo,qxs]
  refine qmz (fun h=>?_) (fun _=>qn1 rfl (qn1 rfl (qn1 rfl (qn1 rfl (qn1 rfl (qn2 ⟨rfl,rfl,rfl,rfl,rfl,by show b1.length≤_;omega⟩))))))
  have:=of_decide_eq_true h
  omega
 |succ m ih =>
  intro k b1 hk hs
  have hlt:k<b2.length:=by omega
  have e2:IntKind.i64.wrap ((k:Int)+1)=((k+1:Nat):Int):=by rw [qxb (by omega)];rfl
  refine .via qm0 ?_
  unfold qm4
  simp only [EC.decL_encL,EC.isL_encL,EC.encL_length,qxo,qxs,Int.toNat_natCast,e2]
  refine qmz (fun h=>?_) (fun h=>?_)
  ·refine qn1 (by simp;omega) (qn1 (by rw [len_9 b2 k hlt];simp [hlt]) (qn1 (qj7 b2 k hlt) ?_))
   rw [qg7 hlt]
   have hsz:=hz _ (List.getElem_mem hlt)
   have hil:=qj0 b2[k]
   simp only [bmap,q8k,q9o,EC.decL_encL,EC.isL_encL,EC.encL_length,qxo,hil]
   refine qn1 (by simp;omega) (qn1 (by simp;omega) (qn1 rfl (qn1 rfl (qn1 rfl (qn1 rfl (qn1 rfl ?_))))))
   have hl2:((b1++ints b2[k])++[13,10]).length=b1.length+b2[k].size+2:=by simp [hil];omega
   have:=ih (k+1) ((b1++ints b2[k])++[13,10]) (by omega) (by rw [hl2];omega)
   rw [hl2] at this
   refine this.mono fun x hx=>⟨hx.1,hx.2.1,hx.2.2.1,hx.2.2.2.1,hx.2.2.2.2.1,by have:=hx.2.2.2.2.2;omega⟩
  ·have:=of_decide_eq_false h
   omega
set_option maxRecDepth 100000 in
theorem qcd (l:List S57) (hl:l.length≤60) (b0:List S57) (b01:List Int):∀ (m k:Nat) (b1:List Int),k+m=l.length→b1.length+m*10001000000≤900000000000 →
  Ok (qlr b1.length l l.length k b0 b01 b1) fun x=>x.2.1=(b0,b01)∧x.1.2.1=x.2.2.length∧x.1.2.1≤900000000000:=by
 intro m
 induction m with
 |zero =>
  intro k b1 hk hs
  refine .via qlt ?_
  unfold qlx
  simp only [EC.decL_encL,EC.isL_encL,EC.encL_length,qy8,q3p,q3q]
  refine qmz (fun h=>?_) (fun _=>qn1 rfl (qn1 rfl (qn1 rfl (qn1 rfl (qn2 ⟨rfl,rfl,by show b1.length≤_;omega⟩)))))
  have:=of_decide_eq_true h
  omega
 |succ m ih =>
  intro k b1 hk hs
  have hlt:k<l.length:=by omega
  have e2:IntKind.i64.wrap ((k:Int)+1)=((k+1:Nat):Int):=by rw [qxb (by omega)];rfl
  refine .via qlt ?_
  unfold qlx
  simp only [EC.decL_encL,EC.isL_encL,EC.encL_length,qy8,q3p,q3q,Int.toNat_natCast]
  refine qmz (fun h=>?_) (fun h=>?_)
  ·refine qn1 (by simp) (qn1 (by simp [hlt]) ?_)
   rw [qg7 hlt]
   refine qmy (qea _ _) fun r hr=>?_
   obtain ⟨h1,h2,h3,_⟩:=hr
   rw [h1]
   rw [h1] at h2
   refine qn1 rfl (qn1 rfl (qn1 rfl (qn1 rfl (qn1 rfl ?_))))
   have hz0:0+r.2.length=r.2.length:=Nat.zero_add _
   have hbig:b1.length+r.2.length*100002≤1000000000000:=by
    have g1:r.2.length*100002≤10001000000:=Nat.le_trans (Nat.mul_le_mul_right 100002 h2) (by decide)
    have g2:10001000000≤(m+1)*10001000000:=Nat.le_mul_of_pos_left _ (Nat.succ_pos m)
    exact Nat.le_trans (Nat.add_le_add_left (Nat.le_trans g1 g2) _) (Nat.le_trans hs (by decide))
   refine qmy (qkf l l.length k b0 b01 r.2 h2 h3 r.2.length 0 b1 hz0 hbig) fun r1 hr1=>?_
   obtain ⟨q1,q2,q3,q4,q5,q6⟩:=hr1
   rw [q1,q2,q3,q4,q5,e2]
   refine qn1 rfl (qn1 rfl (qn1 rfl (qn1 rfl ?_)))
   exact ih (k+1) r1.2.2.1 (by omega) (by rw [←q5];omega)
  ·have:=of_decide_eq_false h
   omega
theorem qxd (l:List S57) (hl:l.length≤60) (b:List Int) (hb:b.length≤2000000):Ok (qm5 l b) fun r=>r.1=r.2.length:=.via qlq (by
 unfold qm6
 simp only [EC.decL_encL,EC.isL_encL,EC.encL_length,qxo,qe]
 refine qn1 rfl (qn1 rfl (qn1 rfl ?_))
 refine qmy (qcd l hl l b l.length 0 [] (by omega) (by simp;omega)) fun r hr=>?_
 obtain ⟨h1,h2,h3⟩:=hr
 rw [h1]
 simp only [q8k,q9o,EC.decL_encL,EC.isL_encL,EC.encL_length,qxo]
 refine qn1 (by simp;omega) (qn1 (by simp;omega) (qn1 rfl (qn2 ?_)))
 simp only [List.length_append,h2])
theorem q6k (b:List Int) (hb:b.length≤2000000):∀ (m k:Nat) (c:Int),b.length - k≤m→k≤b.length+2→0≤c→c≤998→Ok (q48 b c k) fun _=>True:=by
  intro m
  induction m with
  | zero =>
    intro k c hk hk2 h0 h1
    refine .via q4a ?_
    unfold q4f
    simp only [EC.decL_encL,EC.isL_encL,EC.encL_length,isE_5,at_5_0]
    refine qmz (fun h=>?_) (fun _=>qn1 rfl (qn2 trivial))
    have:=of_decide_eq_true h
    omega
  | succ m ih =>
    intro k c hk hk2 h0 h1
    refine .via q4a ?_
    unfold q4f
    have e2:IntKind.i64.wrap ((k:Int)+1)=((k+1:Nat):Int):=by rw [qxb (by omega)];rfl
    have e3:IntKind.i64.wrap (((k+1:Nat):Int)+1)=((k+2:Nat):Int):=by rw [qxb (by omega)];omega
    have ec:IntKind.i64.wrap (c+1)=c+1:=qxb (by omega)
    simp only [EC.decL_encL,EC.isL_encL,EC.encL_length,isE_5,at_5_0,Int.toNat_natCast,e2,e3,ec]
    refine qmz (fun h=>?_) (fun _=>qn1 rfl (qn2 trivial))
    have hlt:k<b.length:=by have:=of_decide_eq_true h;omega
    have step:Ok (brE (decide (c+1>998)) (some (.inl ((1:Int),()))) (gdE true<| q48 b (c+1) ((k+1:Nat):Int))) fun _=>True:=qmz (fun _=>qn2 trivial) (fun h=>qn1 rfl (ih (k+1) (c+1) (by omega) (by omega) (by omega) (by have:=of_decide_eq_false h;omega)))
    refine qn1 (by simp) (qn1 (by simp [hlt]) ?_)
    repeat' (first
      | exact qn2 trivial
      | exact step
      | exact qn1 rfl (ih (k+2) 0 (by omega) (by omega) (by omega) (by omega))
      | (refine qn1 ?_ ?_
         · first
             | (simp;done)
             | (simp;omega)
             | (simp_all;done)
             | (simp_all;omega))
      | (refine qmz (fun _=>?_) (fun _=>?_)))
theorem q6i (b:List Int) (hb:b.length≤2000000):Ok (qll b) fun _=>True:=.via qlk (by
 unfold qlm
 simp only [EC.decL_encL,EC.isL_encL]
 have hbd:Ok (q4g b) fun _=>True:=.via q47 (by
  unfold q4h
  simp only [EC.decL_encL,EC.isL_encL]
  refine qn1 rfl (qmy (q6k b hb b.length 0 0 (by omega) (by omega) (by omega) (by omega)) ?_)
  rintro (r|r) _
  ·exact qn2 trivial
  ·exact qn2 trivial)
 refine qn1 rfl (qmy hbd fun r _=>qmz (fun _=>qmy (qcb _ _) fun _ _=>qn2 trivial) (fun _=>qmz (fun _=>qmy (qcb _ _) fun _ _=>qn2 trivial) (fun _=>qmy qms fun _ _=>qn2 trivial))))
theorem qmc (l:List S57) (b:List Int) (hb:b.length≤2000000):Ok (qlf l b) fun r=>r.1=0→HdrOk l:=.via qle (by
 unfold qlg
 simp only [EC.decL_encL,EC.isL_encL]
 obtain ⟨r0,e0,p0⟩:=qi3 l
 refine qn1 rfl (qmy (qn0 e0) fun r hr=>?_)
 subst hr
 refine qmy (qn0 (qc9 _ _)) fun r1 hr1=>?_
 subst hr1
 refine qmz (fun hb=>qn2 fun h=>?_) (fun hb0=>?_)
 ·rw [h] at hb;cases hb
 ·have h0:r.1=0:=by simpa using hb0
  obtain ⟨hl,ha⟩:=p0 h0
  have hok:HdrOk l:=⟨⟨r.2,by rw [e0,←h0]⟩,hl,ha⟩
  refine qn1 rfl (qn1 rfl (qmy (qxd l hl b hb) fun r2 _=>qmz (fun _=>qmy (qcb _ _) fun _ _=>qn2 fun _=>hok) (fun _=>qn1 rfl (qmy (q6i b hb) fun _ _=>qn2 fun _=>hok)))))
end Go.Proofs.YtmacbkjehjbjeaaGreatDoor
namespace Go.Proofs.YtmacbkjehjbjeaaGreatDoor
theorem lt_irr:∀ a:List UInt8,Go.Op.bytesLess a a=false
 |[]=>rfl
 |x::a=>by
  have h:¬ x<x:=UInt8.lt_irrefl x
  simp [Go.Op.bytesLess,lt_irr a,h]
theorem ql4 {x y:UInt8} {a b:List UInt8}:Go.Op.bytesLess (x::a) (y::b)=true ↔ x<y∨(x=y∧Go.Op.bytesLess a b=true):=by
 simp [Go.Op.bytesLess]
theorem ql5:∀ {a b c:List UInt8},Go.Op.bytesLess a b=true→Go.Op.bytesLess b c=true→Go.Op.bytesLess a c=true
 |_,[],_,h,_=>by
  rename_i a c
  cases a <;> simp [Go.Op.bytesLess] at h
 |_,_::_,[],_,h=>by simp [Go.Op.bytesLess] at h
 |[],_::_,_::_,_,_=>rfl
 |x::a,y::b,z::c,h1,h2=>by
  rw [ql4] at *
  rcases h1 with h1|⟨rfl,h1⟩
  ·rcases h2 with h2|⟨rfl,h2⟩
   ·exact .inl (UInt8.lt_trans h1 h2)
   ·exact .inl h1
  ·rcases h2 with h2|⟨rfl,h2⟩
   ·exact .inl h2
   ·exact .inr ⟨rfl,ql5 h1 h2⟩
theorem lt_asy {a b:List UInt8} (h:Go.Op.bytesLess a b=true):Go.Op.bytesLess b a=false:=by
 cases h1:Go.Op.bytesLess b a with
 |false=>rfl
 |true=>have:=ql5 h h1;rw [lt_irr] at this;cases this
theorem lt_tri:∀ (a b:List UInt8),Go.Op.bytesLess a b=true∨a=b∨Go.Op.bytesLess b a=true
 |[],[]=>.inr (.inl rfl)
 |[],_::_=>.inl rfl
 |_::_,[]=>.inr (.inr rfl)
 |x::a,y::b=>by
  simp only [ql4]
  by_cases h:x=y
  ·subst h
   rcases lt_tri a b with h|h|h
   ·exact .inl (.inr ⟨rfl,h⟩)
   ·exact .inr (.inl (by rw [h]))
   ·exact .inr (.inr (.inr ⟨rfl,h⟩))
  ·by_cases h1:x<y
   ·exact .inl (.inl h1)
   ·exact .inr (.inr (.inl (UInt8.lt_of_le_of_ne (UInt8.not_lt.1 h1) (Ne.symm h))))
theorem q81:∀ (a b:List UInt8),(Go.Lib.compareBytes a b<0 ↔ Go.Op.bytesLess a b=true)∧(Go.Lib.compareBytes a b=0 ↔ a=b)
 |[],[]=>by simp [Go.Lib.compareBytes,Go.Op.bytesLess]
 |[],_::_=>by simp [Go.Lib.compareBytes,Go.Op.bytesLess]
 |_::_,[]=>by simp [Go.Lib.compareBytes,Go.Op.bytesLess]
 |x::a,y::b=>by
  rw [ql4]
  unfold Go.Lib.compareBytes
  by_cases h1:x<y
  ·have:x≠y:=UInt8.ne_of_lt h1
   simp [h1,this]
  ·by_cases h2:y<x
   ·have:x≠y:=Ne.symm (UInt8.ne_of_lt h2)
    simp [h1,h2,this]
   ·have:x=y:=UInt8.le_antisymm (UInt8.not_lt.1 h2) (UInt8.not_lt.1 h1)
    subst this
    have ih:=q81 a b
    simp [h1,ih.1,ih.2]
def spA (c:UInt8):List UInt8→List UInt8→List (List UInt8)
 |p,[]=>[p]
 |p,x::l=>if x=c then p::spA c [] l else spA c (p++[x]) l
theorem qio (x:UInt8) (l s:List UInt8):(0≤Go.Lib.index (x::l) s ↔ s.isPrefixOf (x::l)=true∨0≤Go.Lib.index l s):=by
 have h:=Go.Lib.index_ge l s
 rw [Go.Lib.index]
 split
 ·rename_i h1;simp [h1]
 ·rename_i h1
  split
  ·rename_i h2
   have h2:Go.Lib.index l s=-1:=by simpa using h2
   simp [h1,h2]
  ·rename_i h2
   have h2:Go.Lib.index l s≠-1:=by simpa using h2
   simp only [h1,Bool.false_eq_true,false_or]
   omega
theorem q8n (c:UInt8):Go.Lib.cut [] [c]=([],[],false):=rfl
theorem q8m (c x:UInt8) (l:List UInt8):Go.Lib.cut (x::l) [c]=if x=c then ([],l,true) else if (Go.Lib.cut l [c]).2.2=true then (x::(Go.Lib.cut l [c]).1,(Go.Lib.cut l [c]).2.1,true) else (x::l,[],false):=by
 have h:=Go.Lib.index_ge l [c]
 unfold Go.Lib.cut
 rw [Go.Lib.index]
 by_cases hx:x=c
 ·subst hx
  simp
 ·have h0:(c==x)=false:=by simpa using Ne.symm hx
  have h1:List.isPrefixOf [c] (x::l)=false:=by simp [List.isPrefixOf,h0]
  simp only [h1,Bool.false_eq_true,if_false,hx]
  by_cases h2:Go.Lib.index l [c]=-1
  ·simp [h2]
  ·have h3:0≤Go.Lib.index l [c]:=by omega
   have h4:0≤Go.Lib.index l [c]+1:=by omega
   have h5:(Go.Lib.index l [c]==-1)=false:=by simpa using h2
   have h6:(Go.Lib.index l [c]+1).toNat=(Go.Lib.index l [c]).toNat+1:=by omega
   have h7:(Go.Lib.index l [c]).toNat+1+1=(Go.Lib.index l [c]).toNat+1+[c].length:=rfl
   simp only [h5,Bool.false_eq_true,if_false,h3,h4,if_true,h6,List.take_succ_cons]
   rfl
theorem qqt (c:UInt8):∀ (l p:List UInt8),spA c p l=if (Go.Lib.cut l [c]).2.2=true then (p++(Go.Lib.cut l [c]).1)::spA c [] (Go.Lib.cut l [c]).2.1 else [p++l]
 |[],p=>by simp [spA,q8n]
 |x::l,p=>by
  rw [spA,q8m]
  by_cases hx:x=c
  ·simp [hx]
  ·rw [if_neg hx,if_neg hx,qqt c l (p++[x])]
   by_cases h:(Go.Lib.cut l [c]).2.2=true
   ·simp [h]
   ·simp [h]
theorem q8p (c:UInt8):∀ (l:List UInt8),(Go.Lib.cut l [c]).2.2=true→c∈l
 |[],h=>by rw [q8n] at h;cases h
 |x::l,h=>by
  rw [q8m] at h
  by_cases hx:x=c
  ·simp [hx]
  ·rw [if_neg hx] at h
   by_cases h1:(Go.Lib.cut l [c]).2.2=true
   ·exact List.mem_cons_of_mem _ (q8p c l h1)
   ·rw [if_neg h1] at h;cases h
def dm (f:UInt8→Bool):Bool→List UInt8→Bool
 |e,[]=>e
 |e,x::l=>if x=46 then e&&dm f false l else f x&&dm f true l
theorem spA_dm (f:UInt8→Bool):∀ (l p:List UInt8),(spA 46 p l).all (fun q=>!q.isEmpty&&q.all f)=(p.all f&&dm f (!p.isEmpty) l)
 |[],p=>by simp [spA,dm,Bool.and_comm]
 |x::l,p=>by
  rw [spA,dm]
  by_cases hx:x=46
  ·rw [if_pos hx,if_pos hx,List.all_cons,spA_dm f l []]
   cases p.all f <;> cases p.isEmpty <;> simp
  ·rw [if_neg hx,if_neg hx,spA_dm f l (p++[x])]
   have:(p++[x]).isEmpty=false:=by cases p <;> rfl
   rw [this,List.all_append]
   cases p.all f <;> simp
def sfx (e:Bool) (l:List UInt8):Bool:=match l.getLast? with|none=>e|some y=>y != 46
theorem qq2 (e:Bool) (x:UInt8) (l:List UInt8):sfx e (x::l)=sfx (x != 46) l:=by
 unfold sfx
 cases l with
 |nil=>rfl
 |cons y l=>rw [List.getLast?_cons_cons];cases h:(y::l).getLast? with
  |none=>simp at h
  |some z=>rfl
theorem q9b (x:UInt8) (l:List UInt8):Go.Lib.contains (x::l) [46,46]=(([46,46]:List UInt8).isPrefixOf (x::l)||Go.Lib.contains l [46,46]):=by
 unfold Go.Lib.contains
 rw [Bool.eq_iff_iff,decide_eq_true_iff,qio,Bool.or_eq_true,decide_eq_true_iff]
def pfx (l:List UInt8):Bool:=l.take 1==[46]
theorem dm_eq (f:UInt8→Bool):∀ (l:List UInt8) (e:Bool),dm f e l=(l.all (fun x=>f x||x==46)&&(sfx e l&&(!Go.Lib.contains l [46,46]&&(e||!pfx l))))∨f 46=true
 |[],e=>.inl (by simp [dm,sfx,pfx,Go.Lib.contains,Go.Lib.index])
 |x::l,e=>by
  rw [dm,qq2,q9b,List.all_cons]
  by_cases hx:x=46
  ·subst hx
   rcases dm_eq f l false with h|h
   ·left
    rw [if_pos rfl,h]
    have h1:pfx ((46:UInt8)::l)=true:=rfl
    have h2:([46,46]:List UInt8).isPrefixOf (46::l)=pfx l:=by
     cases l with
     |nil=>rfl
     |cons y l =>
      by_cases hy:y=46
      ·subst hy;rfl
      ·have h5:((46:UInt8)==y)=false:=by simpa using Ne.symm hy
       have h6:(y==(46:UInt8))=false:=by simpa using hy
       simp [pfx,List.isPrefixOf,h5,h6]
    rw [h1,h2]
    have h3:((46:UInt8) != 46)=false:=rfl
    rw [h3]
    cases e <;> cases l.all (fun x=>f x||x==46) <;> cases sfx false l <;> cases Go.Lib.contains l [46,46] <;> cases pfx l <;> simp
   ·exact .inr h
  ·rcases dm_eq f l true with h|h
   ·left
    rw [if_neg hx,h]
    have h1:pfx (x::l)=false:=by simp [pfx,hx]
    have h2:([46,46]:List UInt8).isPrefixOf (x::l)=false:=by
     have h5:((46:UInt8)==x)=false:=by simpa using Ne.symm hx
     simp [List.isPrefixOf,h5]
    have h3:(x != 46)=true:=by simpa using hx
    have h4:(x==46)=false:=by simpa using hx
    rw [h1,h2,h3,h4]
    cases f x <;> cases e <;> cases l.all (fun x=>f x||x==46) <;> cases sfx true l <;> cases Go.Lib.contains l [46,46] <;> simp
   ·exact .inr h
def addrL (lf df:UInt8→Bool) (l:List UInt8):Bool:=match spA 64 [] l with
 |[a,b]=>(decide (1≤a.length)&&decide (a.length≤60))&&((decide (1≤b.length)&&decide (b.length≤60))&&(a.all lf&&(spA 46 [] b).all (fun q=>!q.isEmpty&&q.all df)))
 |_=>false
theorem qs (lf df:UInt8→Bool) (h46:df 46=false) (h64:df 64=false) (l:List UInt8):addrL lf df l=((Go.Lib.cut l [64]).2.2&&(!(Go.Lib.cut l [64]).1.isEmpty&&(decide ((Go.Lib.cut l [64]).1.length≤60)&&((Go.Lib.cut l [64]).1.all lf &&
  (!(Go.Lib.cut l [64]).2.1.isEmpty&&(decide ((Go.Lib.cut l [64]).2.1.length≤60)&&((Go.Lib.cut l [64]).2.1.all (fun x=>df x||x==46)&&(!pfx (Go.Lib.cut l [64]).2.1&&(sfx false (Go.Lib.cut l [64]).2.1&&!Go.Lib.contains (Go.Lib.cut l [64]).2.1 [46,46]))))))))):=by
 unfold addrL
 rw [qqt]
 cases h:(Go.Lib.cut l [64]).2.2 with
 |false=>simp
 |true =>
  rw [if_pos rfl]
  generalize (Go.Lib.cut l [64]).1=a
  generalize (Go.Lib.cut l [64]).2.1=b
  rw [List.nil_append,qqt]
  cases hb:(Go.Lib.cut b [64]).2.2 with
  |true =>
   have hm:=q8p 64 b hb
   have:b.all (fun x=>df x||x==46)=false:=by
    rw [List.all_eq_false]
    exact ⟨64,hm,by rw [h64];decide⟩
   rw [if_pos rfl,this]
   have hne:spA 64 [] (Go.Lib.cut b [64]).2.1≠[]:=by
    rw [qqt];split <;> simp
   cases h9:spA 64 [] (Go.Lib.cut b [64]).2.1 with
   |nil=>exact absurd h9 hne
   |cons y ys=>simp
  |false =>
   rw [if_neg (by decide)]
   simp only [List.nil_append]
   rw [spA_dm,(dm_eq df b _).resolve_right (by rw [h46];decide)]
   have ha:decide (1≤a.length)=!a.isEmpty:=by cases a <;> simp
   have hb1:decide (1≤b.length)=!b.isEmpty:=by cases b <;> simp
   rw [ha,hb1]
   simp only [List.all_nil,List.isEmpty_nil,Bool.not_true,Bool.false_or,Bool.true_and]
   cases a.isEmpty <;> cases decide (a.length≤60) <;> cases a.all lf <;> cases b.isEmpty <;> cases decide (b.length≤60) <;> cases b.all (fun x=>df x||x==46) <;> cases pfx b <;> cases sfx false b <;> cases Go.Lib.contains b [46,46] <;> rfl
end Go.Proofs.YtmacbkjehjbjeaaGreatDoor
