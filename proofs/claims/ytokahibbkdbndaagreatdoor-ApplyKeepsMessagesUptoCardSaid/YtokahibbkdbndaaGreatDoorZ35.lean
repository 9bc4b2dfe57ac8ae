/- prove.execute is the run of the script. -/
import Derived.Test.YtokahibbkdbndaaGreatDoorZ34
import Derived.Test.YtokahibbkdbndaaGreatDoorZ33
import Derived.Test.YtokahibbkdbndaaGreatDoorZ25
import Derived.Test.YtokahibbkdbndaaGreatDoorZ32
namespace Go.Proofs.YtokahibbkdbndaaGreatDoor
open Go.RowKit
theorem gd63 {n:Nat} (h:n≤1000):decide (n≤9223372036854775807)=true:=decide_eq_true (by omega)
theorem len1 (x:List C):[x].length=1:=rfl
def mark (rs:List Bool) (ns:List Int):List Bool:=ns.foldl (fun b n=>b.set n.toNat true) rs
theorem q1fs (rs:List Bool) (a b:List Int):mark rs (a++b)=mark (mark rs a) b:=by simp [mark]
theorem q1ft (rs:List Bool) (n:Int) (b:List Int):mark rs (n::b)=mark (rs.set n.toNat true) b:=rfl
theorem q1fu:∀ (a:List Int) (rs:List Bool),(mark rs a).length=rs.length
 |[],rs=>rfl
 |n::a,rs=>by rw [q1ft,q1fu a];simp
def actOf (a:Int):S45:=⟨a,ByteArray.mk (List.toArray []),0⟩
theorem gd32 {n:Nat} (h:n≤1000):decide ((n+n / 4+192)*32≤281474976710656)=true:=decide_eq_true (by omega)
section
variable (o:Int) (c:List S48) (n0:Nat)
def st (n2 n3:Nat) (rs:List Bool) (ac:List S45) (u:List Int × List Int × Bool):(Nat × Int × Nat × Nat) × List S48 × List Bool × List S45:=((n0,(o,(n2,n3+u.2.1.length))),(c,(mark rs u.1,ac++u.2.1.map actOf)))
def exOk (s:List S50):Prop:=∀ (n:Int) (n2 n3:Nat) (rs:List Bool) (ac:List S45),n2=rs.length→n3=ac.length→0≤n→n+szL s≤n2→n2≤1000→n3+szL s≤1000 →
 q1ig s n n0 o n2 n3 c rs ac=some (!(runL o c s n).2.2,(!(runL o c s n).2.2,st o c n0 n2 n3 rs ac (runL o c s n)))
theorem q1dy (s:List S50) (hl:s.length≤big) (ho:okL s) (hH:∀ r∈s,(r.Kind==1)=true→∀ n2 n3 rs ac,holdsAt o c n0 n2 n3 rs ac (tOf r)) (ih:∀ r∈s,exOk o c n0 r.Then∧exOk o c n0 r.Else) :
  ∀ m k (n:Int) (n2 n3:Nat) (rs:List Bool) (ac:List S45),k+m=s.length→n2=rs.length→n3=ac.length→0≤n→n+szL (s.drop k)≤n2→n2≤1000→n3+szL (s.drop k)≤1000 →
  ∃ x,q1ij n s s.length k n0 o n2 n3 c rs ac=some x∧Sum.elim (fun r=>(r.1,r.2)) (fun r=>(true,r.2)) x=(!(runL o c (s.drop k) n).2.2,st o c n0 n2 n3 rs ac (runL o c (s.drop k) n)):=by
 intro m
 induction m with
 |zero =>
  intro k n n2 n3 rs ac hk q2 q3 h0 h1 h2 h3
  have hk:k=s.length:=by omega
  subst hk
  refine ⟨.inr (((),(n,(s,((s.length:Int),((s.length:Int),false))))),((n0,(o,(n2,n3))),(c,(rs,ac)))),q1il (by
   simp only [q1iq,q26i,q26z,EC.decL_encL,EC.isL_encL,EC.encL_length,qxe,q277,q41,q42,q46,q47,q48,q49,q4a,q4b,q4c,q4d,q267,q269]
   simp),?_⟩
  rw [List.drop_length,runL];simp [st,mark]
 |succ m ihm =>
  intro k n n2 n3 rs ac hk q2 q3 h0 h1 h2 h3
  have hlt:k<s.length:=by omega
  have e1:decide ((k:Int)<(s.length:Int))=true:=by simp;omega
  have e0:decide ((0:Int)≤(k:Int))=true:=by simp
  have e2:IntKind.i64.wrap ((k:Int)+1)=((k+1:Nat):Int):=q27y hlt (by unfold big at hl;omega)
  have hd2:decide (k<s.length)=true:=by simp [hlt]
  rw [q1jf hlt] at h1 h3
  have hsz:=q27t s[k]
  obtain ⟨_,⟨ht1,ht2⟩,⟨he1,he2⟩,_⟩:=(q27h s[k]).1 (qpa ho (List.getElem_mem hlt))
  obtain ⟨iT,iE⟩:=ih s[k] (List.getElem_mem hlt)
  have hcT:=size_s s[k].Then ht1 ht2
  have hcE:=size_s s[k].Else he1 he2
  rw [q27x (by omega)] at hcT hcE
  have w1:IntKind.i64.wrap (n+1)=n+1:=q27x (by omega)
  have w2:IntKind.i64.wrap (n+1+(szL s[k].Then:Int))=n+1+szL s[k].Then:=q27x (by omega)
  have w3:IntKind.i64.wrap (1+(szL s[k].Then:Int))=1+szL s[k].Then:=q27x (by omega)
  have w4:IntKind.i64.wrap (1+(szL s[k].Then:Int)+(szL s[k].Else:Int))=1+szL s[k].Then+szL s[k].Else:=q27x (by omega)
  have w5:IntKind.i64.wrap (n+(1+(szL s[k].Then:Int)+(szL s[k].Else:Int)))=n+szR s[k]:=by rw [q27x (by omega)];omega
  have f1:decide (0≤n)=true:=decide_eq_true h0
  have f2:decide (n<(n2:Int))=true:=decide_eq_true (by omega)
  have f3:decide (n.toNat<rs.length)=true:=decide_eq_true (by omega)
  have f4:(((q26n.encL rs).getD n.toNat []).length==1)=true:=by rw [q27c rs n.toNat (by omega)];rfl
  have hset:(rs.set n.toNat true).length=n2:=by rw [List.length_set,q2]
  rw [q97 hlt,runL]
  cases k1:(s[k].Kind==1) with
  |true =>
   have kk1:s[k].Kind=1:=by simpa using k1
   have k4:(s[k].Kind==4)=false:=by rw [kk1];rfl
   have k2:(s[k].Kind==2)=false:=by rw [kk1];rfl
   have hh:=hH s[k] (List.getElem_mem hlt) k1 n2 n3 (rs.set n.toNat true) ac
   have hh:q1j2 s[k].Test_Kind s[k].Test_Tests s[k].Test_Name s[k].Test_Pattern s[k].Test_Text s[k].Test_N n0 o n2 n3 c (rs.set n.toNat true) ac=some (hT o c (tOf s[k]),(hT o c (tOf s[k]),((n0,(o,(n2,n3))),(c,(rs.set n.toNat true,ac))))):=hh
   cases hb:hT o c (tOf s[k]) with
   |true =>
    rw [hb] at hh
    have hp:=iT (n+1) n2 n3 (rs.set n.toNat true) ac hset.symm q3 (by omega) (by omega) h2 (by omega)
    obtain ⟨p1,p2⟩:=q1jb o c s[k].Then (n+1)
    have hr:runR o c s[k] n=(n::(runL o c s[k].Then (n+1)).1,(runL o c s[k].Then (n+1)).2):=by rw [q1jc,k4,if_neg (by decide),k2,if_neg (by decide),k1,if_pos rfl,hb,if_pos rfl]
    rw [hr]
    generalize runL o c s[k].Then (n+1)=u at hp p1 p2
    obtain ⟨u1,u2,u3⟩:=u
    simp only [st] at hp
    simp only at p1 p2
    cases u3 with
    |true =>
     rw [if_pos rfl]
     refine ⟨.inl (false,((n0,(o,(n2,n3+u2.length))),(c,(mark (rs.set n.toNat true) u1,ac++u2.map actOf)))),q1il ?_,rfl⟩
     simp only [q1iq,q26i,q26z,EC.decL_encL,EC.isL_encL,EC.encL_length,qxe,q277,q41,q42,q46,q47,q48,q49,q4a,q4b,q4c,q4d,q267,q269,e1,e0,if_true,Int.toNat_natCast,hd2,Bool.and_self,qik hlt,k4,k2,k1,Bool.false_eq_true,if_false,f1,f2,f3,f4,hcT,hcE,hh,w1,hp,Option.bind_some,Bool.not_true,Bool.not_false]
    |false =>
     rw [if_neg Bool.false_ne_true]
     obtain ⟨x,x1,x2⟩:=ihm (k+1) (n+szR s[k]) n2 (n3+u2.length) (mark (rs.set n.toNat true) u1) (ac++u2.map actOf) (by omega) (by rw [q1fu,hset]) (by simp [q3]) (by omega) (by omega) h2 (by omega)
     refine ⟨x,q1il ?_,by rw [x2];simp [st,q1fs,q1ft,Nat.add_assoc]⟩
     simp only [q1iq,q26i,q26z,EC.decL_encL,EC.isL_encL,EC.encL_length,qxe,q277,q41,q42,q46,q47,q48,q49,q4a,q4b,q4c,q4d,q267,q269,e1,e0,if_true,Int.toNat_natCast,hd2,Bool.and_self,qik hlt,k4,k2,k1,Bool.false_eq_true,if_false,f1,f2,f3,f4,hcT,hcE,hh,w1,hp,Option.bind_some,Bool.not_true,Bool.not_false,w3,w4,w5,e2]
     exact x1
   |false =>
    rw [hb] at hh
    have hp:=iE (n+1+szL s[k].Then) n2 n3 (rs.set n.toNat true) ac hset.symm q3 (by omega) (by omega) h2 (by omega)
    obtain ⟨p1,p2⟩:=q1jb o c s[k].Else (n+1+szL s[k].Then)
    have hr:runR o c s[k] n=(n::(runL o c s[k].Else (n+1+szL s[k].Then)).1,(runL o c s[k].Else (n+1+szL s[k].Then)).2):=by rw [q1jc,k4,if_neg (by decide),k2,if_neg (by decide),k1,if_pos rfl,hb,if_neg (by decide)]
    rw [hr]
    generalize runL o c s[k].Else (n+1+szL s[k].Then)=u at hp p1 p2
    obtain ⟨u1,u2,u3⟩:=u
    simp only [st] at hp
    simp only at p1 p2
    cases u3 with
    |true =>
     rw [if_pos rfl]
     refine ⟨.inl (false,((n0,(o,(n2,n3+u2.length))),(c,(mark (rs.set n.toNat true) u1,ac++u2.map actOf)))),q1il ?_,rfl⟩
     simp only [q1iq,q26i,q26z,EC.decL_encL,EC.isL_encL,EC.encL_length,qxe,q277,q41,q42,q46,q47,q48,q49,q4a,q4b,q4c,q4d,q267,q269,e1,e0,if_true,Int.toNat_natCast,hd2,Bool.and_self,qik hlt,k4,k2,k1,Bool.false_eq_true,if_false,f1,f2,f3,f4,hcT,hcE,hh,w1,w2,hp,Option.bind_some,Bool.not_true,Bool.not_false]
    |false =>
     rw [if_neg Bool.false_ne_true]
     obtain ⟨x,x1,x2⟩:=ihm (k+1) (n+szR s[k]) n2 (n3+u2.length) (mark (rs.set n.toNat true) u1) (ac++u2.map actOf) (by omega) (by rw [q1fu,hset]) (by simp [q3]) (by omega) (by omega) h2 (by omega)
     refine ⟨x,q1il ?_,by rw [x2];simp [st,q1fs,q1ft,Nat.add_assoc]⟩
     simp only [q1iq,q26i,q26z,EC.decL_encL,EC.isL_encL,EC.encL_length,qxe,q277,q41,q42,q46,q47,q48,q49,q4a,q4b,q4c,q4d,q267,q269,e1,e0,if_true,Int.toNat_natCast,hd2,Bool.and_self,qik hlt,k4,k2,k1,Bool.false_eq_true,if_false,f1,f2,f3,f4,hcT,hcE,hh,w1,w2,hp,Option.bind_some,Bool.not_true,Bool.not_false,w3,w4,w5,e2]
     exact x1
  |false =>
  cases k2:(s[k].Kind==2) with
  |true =>
   have kk2:s[k].Kind=2:=by simpa using k2
   have k4:(s[k].Kind==4)=false:=by rw [kk2];rfl
   have hr:runR o c s[k] n=([n],[s[k].Act],false):=by rw [q1jc,k4,if_neg (by decide),k2,if_pos rfl]
   rw [hr,if_neg Bool.false_ne_true]
   have g3:decide ((n3+1+(n3+1) / 4+192)*32≤281474976710656)=true:=gd32 (by omega)
   have g4:decide (n3+1≤9223372036854775807)=true:=gd63 (by omega)
   have all1:∀ (a:Int) (b:ByteArray) (d:Int),List.all [[C.int IntKind.i64 a,C.str b,C.int IntKind.i64 d]] (fun (el:List C)=>el.length==3)=true:=fun a b d=>rfl
   obtain ⟨x,x1,x2⟩:=ihm (k+1) (n+szR s[k]) n2 (n3+1) (rs.set n.toNat true) (ac++[actOf s[k].Act]) (by omega) hset.symm (by simp [q3]) (by omega) (by omega) h2 (by omega)
   refine ⟨x,q1il ?_,by rw [x2];simp [st,q1ft,Nat.add_assoc,Nat.add_comm 1]⟩
   simp only [q1iq,q26i,q26z,EC.decL_encL,EC.isL_encL,EC.encL_length,qxe,q277,q41,q42,q46,q47,q48,q49,q4a,q4b,q4c,q4d,q267,q269,e1,e0,if_true,Int.toNat_natCast,hd2,Bool.and_self,qik hlt,k4,k2,k1,Bool.false_eq_true,if_false,f1,f2,f3,f4,g3,g4,len1,all1,hcT,hcE,Option.bind_some,w3,w4,w5,e2]
   exact x1
  |false =>
  cases k4:(s[k].Kind==4) with
  |true =>
   have hr:runR o c s[k] n=([n],[],true):=by rw [q1jc,k4,if_pos rfl]
   rw [hr,if_pos rfl]
   refine ⟨.inl (false,((n0,(o,(n2,n3))),(c,(rs.set n.toNat true,ac)))),q1il ?_,by simp [st,mark]⟩
   simp only [q1iq,q26i,q26z,EC.decL_encL,EC.isL_encL,EC.encL_length,qxe,q277,q41,q42,q46,q47,q48,q49,q4a,q4b,q4c,q4d,q267,q269,e1,e0,if_true,Int.toNat_natCast,hd2,Bool.and_self,qik hlt,k4,k2,k1,Bool.false_eq_true,if_false,f1,f2,f3,f4]
  |false =>
   have hr:runR o c s[k] n=([n],[],false):=by rw [q1jc,k4,if_neg (by decide),k2,if_neg (by decide),k1,if_neg (by decide)]
   rw [hr,if_neg Bool.false_ne_true]
   obtain ⟨x,x1,x2⟩:=ihm (k+1) (n+szR s[k]) n2 n3 (rs.set n.toNat true) ac (by omega) hset.symm q3 (by omega) (by omega) h2 (by omega)
   refine ⟨x,q1il ?_,by rw [x2];simp [st,q1ft]⟩
   simp only [q1iq,q26i,q26z,EC.decL_encL,EC.isL_encL,EC.encL_length,qxe,q277,q41,q42,q46,q47,q48,q49,q4a,q4b,q4c,q4d,q267,q269,e1,e0,if_true,Int.toNat_natCast,hd2,Bool.and_self,qik hlt,k4,k2,k1,Bool.false_eq_true,if_false,f1,f2,f3,f4,hcT,hcE,Option.bind_some,w3,w4,w5,e2]
   exact x1
theorem ex_s (ho:0≤o) (hc:c.length≤10):∀ (q:Nat) (s:List S50),szL s=q→s.length≤big→okL s→okvL s→inRL c s→exOk o c n0 s:=by
 intro q
 induction q using Nat.strongRecOn with
 |_ q ih =>
  intro s hq hl hok hv hin n n2 n3 rs ac q2 q3 h0 h1 h2 h3
  obtain ⟨x,x1,x2⟩:=q1dy o c n0 s hl hok (fun r hr hk n2 n3 rs ac=>q1em o ho c hc n0 n2 n3 rs ac _ (tOf r) rfl ((q27h r).1 (qpa hok hr)).1 (qpe (okvR hv hr).1 hk) (((inR_eq c r).1 (q1fe hin hr)).1 hk)) (fun r hr=>by
   have h:=(q27h r).1 (qpa hok hr)
   have hvr:=okvR hv hr
   have hir:=(inR_eq c r).1 (q1fe hin hr)
   exact ⟨ih _ (hq ▸ qz5 hr) r.Then rfl h.2.1.1 h.2.1.2 hvr.2.1 hir.2.1,ih _ (hq ▸ qz4 hr) r.Else rfl h.2.2.1.1 h.2.2.1.2 hvr.2.2 hir.2.2⟩) s.length 0 n n2 n3 rs ac (by omega) q2 q3 h0 (by rw [List.drop_zero];exact h1) h2 (by rw [List.drop_zero];omega)
  have x1:q1ij n s s.length 0 n0 o n2 n3 c rs ac=some x:=x1
  rw [List.drop_zero] at x2
  refine q1ii ?_
  simp only [q1iu,q26z,EC.decL_encL,EC.isL_encL,EC.encL_length,if_true,x1,Option.bind_some]
  rcases x with ⟨a,b⟩|⟨a,b⟩
  ·obtain ⟨z1,z2⟩:=Prod.mk.inj x2
   simp only [Sum.elim_inl,←z1,←z2]
  ·obtain ⟨z1,z2⟩:=Prod.mk.inj x2
   simp only [Sum.elim_inr,←z1,←z2]
end
end Go.Proofs.YtokahibbkdbndaaGreatDoor
namespace Go.Proofs.YtokahibbkdbndaaGreatDoor
open Go.RowKit
def ext (a b:List S48):Prop:=∃ d,b=a++d
theorem q15x (a:List S48):ext a a:=⟨[],by simp⟩
theorem q15y {a b c:List S48} (h1:ext a b) (h2:ext b c):ext a c:=by
 obtain ⟨d,rfl⟩:=h1
 obtain ⟨e,rfl⟩:=h2
 exact ⟨d++e,by simp⟩
theorem q15z {a b:List S48} (h:ext a b) {t:S48} (ht:hasB a t=true):hasB b t=true:=by
 obtain ⟨d,rfl⟩:=h
 unfold hasB at *
 rw [List.any_append,ht,Bool.true_or]
mutual
theorem q16a {a b:List S48} (h:ext a b):∀ (t:S48),inT a t→inT b t
 |⟨k,l,nm,p,tx,n⟩,ht=>by
  rw [inT] at *
  exact ⟨fun hk=>q15z h (ht.1 hk),q166 h l ht.2⟩
theorem q166 {a b:List S48} (h:ext a b):∀ (l:List S48),inL a l→inL b l
 |[],_=>by rw [inL];trivial
 |t::l,ht=>by
  rw [inL] at *
  exact ⟨q16a h t ht.1,q166 h l ht.2⟩
end
mutual
theorem q169 {a b:List S48} (h:ext a b):∀ (r:S50),inR a r→inR b r
 |⟨kd,k,ts,nm,p,tx,n,t,e,a1,a2,a3,a4⟩,hr=>by
  rw [inR] at *
  exact ⟨fun hk=>q16a h _ (hr.1 hk),q168 h t hr.2.1,q168 h e hr.2.2⟩
theorem q168 {a b:List S48} (h:ext a b):∀ (l:List S50),inRL a l→inRL b l
 |[],_=>by rw [inRL];trivial
 |r::l,hr=>by
  rw [inRL] at *
  exact ⟨q169 h r hr.1,q168 h l hr.2⟩
end
theorem q12m (l:List S48) (t:S48):ext l (addT l t):=by
 unfold addT
 split
 ·exact ⟨[t],rfl⟩
 ·exact q15x l
theorem q19i (t:S48):sameB t t=true:=by simp [sameB]
theorem q12n (l:List S48) (t:S48) (hk:t.Kind > 4):hasB (addT l t) t=true:=by
 unfold addT
 cases hh:hasB l t with
 |true=>simp [hh]
 |false =>
  rw [decide_eq_true hk]
  simp [hasB,q19i]
mutual
theorem q130:∀ (t:S48) (l:List S48),ext l (colT l t)
 |⟨k,ts,nm,p,tx,n⟩,l=>by
  rw [colT]
  exact q15y (q12m l _) (q12v ts _)
theorem q12v:∀ (ts:List S48) (l:List S48),ext l (colL l ts)
 |[],l=>by rw [colL];exact q15x l
 |t::ts,l=>by rw [colL];exact q15y (q130 t l) (q12v ts _)
end
mutual
theorem q131:∀ (t:S48) (l:List S48),inT (colT l t) t
 |⟨k,ts,nm,p,tx,n⟩,l=>by
  rw [colT,inT]
  exact ⟨fun hk=>q15z (q12v ts _) (q12n l ⟨k,ts,nm,p,tx,n⟩ hk),q12w ts _⟩
theorem q12w:∀ (ts:List S48) (l:List S48),inL (colL l ts) ts
 |[],l=>by rw [inL];trivial
 |t::ts,l=>by
  rw [colL,inL]
  exact ⟨q16a (q12v ts _) t (q131 t l),q12w ts _⟩
end
mutual
theorem q1a1:∀ (r:S50) (l:List S48),ext l (tsR l r)
 |⟨kd,k,ts,nm,p,tx,n,t,e,a1,a2,a3,a4⟩,l=>by
  rw [tsR]
  refine q15y ?_ (q15y (q19y t _) (q19y e _))
  split
  ·exact q130 _ l
  ·exact q15x l
theorem q19y:∀ (rs:List S50) (l:List S48),ext l (tsL l rs)
 |[],l=>by rw [tsL];exact q15x l
 |r::rs,l=>by rw [tsL];exact q15y (q1a1 r l) (q19y rs _)
end
mutual
theorem tsR_in:∀ (r:S50) (l:List S48),inR (tsR l r) r
 |⟨kd,k,ts,nm,p,tx,n,t,e,a1,a2,a3,a4⟩,l=>by
  rw [tsR,inR]
  refine ⟨fun hk=>?_,q168 (q19y e _) t (tsL_in t _),tsL_in e _⟩
  rw [if_pos hk]
  exact q16a (q15y (q19y t _) (q19y e _)) _ (q131 ⟨k,ts,nm,p,tx,n⟩ l)
theorem tsL_in:∀ (rs:List S50) (l:List S48),inRL (tsL l rs) rs
 |[],l=>by rw [inRL];trivial
 |r::rs,l=>by
  rw [tsL,inRL]
  exact ⟨q169 (q19y rs _) r (tsR_in r l),tsL_in rs _⟩
end
def kB (k:Int):Bool:=k==1||k==2
def keptB (ks:List Int):Bool:=ks.any kB||!ks.any dB
theorem kk_s (k n:Int) (t:ByteArray):q1gd k t n=some (kB k):=by
 refine q1gc ?_
 simp only [q1ge,q26i,kB]
 cases (k==1) <;> rfl
theorem q1fd (l:List S45) (hl:l.length≤big):∀ m k,k+m=l.length→∃ x,q1f3 l l.length k=some x∧Sum.elim (fun r=>decide (r.1 ≥ 0)) (fun _=>false) x=(l.drop k).any fun a=>kB a.Kind:=by
 intro m
 induction m with
 |zero =>
  intro k hk
  have hk:k=l.length:=by omega
  subst hk
  refine ⟨.inr ((l,((),((l.length:Int),((l.length:Int),false)))),()),q1f5 (by
   simp only [q1fa,q26i,q26z,EC.decL_encL,EC.isL_encL,EC.encL_length,q275,q3u,q12s,q12t]
   simp),?_⟩
  rw [List.drop_length];rfl
 |succ m ihm =>
  intro k hk
  have hlt:k<l.length:=by omega
  have e1:decide ((k:Int)<(l.length:Int))=true:=by simp;omega
  have e0:decide ((0:Int)≤(k:Int))=true:=by simp
  have e2:IntKind.i64.wrap ((k:Int)+1)=((k+1:Nat):Int):=q27y hlt (by unfold big at hl;omega)
  have hd2:decide (k<l.length)=true:=by simp [hlt]
  rw [q97 hlt,List.any_cons]
  cases hs:kB l[k].Kind with
  |true =>
   refine ⟨.inl ((k:Int),()),q1f5 ?_,by simp⟩
   simp only [q1fa,q26i,q26z,EC.decL_encL,EC.isL_encL,EC.encL_length,q275,q3u,q12s,q12t,e1,e0,if_true,Int.toNat_natCast,hd2,Bool.and_self,qik hlt,kk_s,Option.bind_some,hs]
  |false =>
   obtain ⟨x,h1,h2⟩:=ihm (k+1) (by omega)
   refine ⟨x,q1f5 ?_,by rw [Bool.false_or];exact h2⟩
   simp only [q1fa,q26i,q26z,EC.decL_encL,EC.isL_encL,EC.encL_length,q275,q3u,q12s,q12t,e1,e0,if_true,Int.toNat_natCast,hd2,Bool.and_self,qik hlt,kk_s,Option.bind_some,hs,Bool.false_eq_true,if_false,e2]
   exact h1
theorem q1ej (l:List S45) (hl:l.length≤big):q1ek l=some (l.any fun a=>kB a.Kind):=by
 obtain ⟨x,h1,h2⟩:=q1fd l hl l.length 0 (by omega)
 have h1:q1f3 l l.length 0=some x:=h1
 rw [List.drop_zero] at h2
 have h3:∃ i,q1fb l=some i∧decide (i ≥ 0)=l.any fun a=>kB a.Kind:=by
  rcases x with ⟨i,u⟩|u
  ·exact ⟨i,q1f2 (by simp only [q1fc,q26z,EC.decL_encL,EC.isL_encL,EC.encL_length,if_true,h1,Option.bind_some,Sum.elim_inl]),h2⟩
  ·exact ⟨-1,q1f2 (by simp only [q1fc,q26z,EC.decL_encL,EC.isL_encL,EC.encL_length,if_true,h1,Option.bind_some,Sum.elim_inr]),by rw [←h2];rfl⟩
 obtain ⟨i,h4,h5⟩:=h3
 refine q1ei ?_
 simp only [q1el,q26z,EC.decL_encL,EC.isL_encL,if_true,h4,Option.bind_some,h5]
theorem q1c2 (f:Int→Bool) (ks:List Int):((ks.map actOf).any fun a=>f a.Kind)=ks.any f:=by
 rw [List.any_map];rfl
theorem h15_s (n:Nat) (ks:List Int) (hk:ks.length≤big) (b:Bool):q1gf n (ks.map actOf) b=some ((),((),b&&keptB ks)):=by
 have h1:=q1ej (ks.map actOf) (by simpa using hk)
 have h2:=q8x (ks.map actOf) (by simpa using hk)
 rw [q1c2] at h1 h2
 refine q1gh ?_
 unfold keptB
 simp only [q1gl,q26i,q26z,EC.decL_encL,EC.isL_encL,if_true,h1,Option.bind_some]
 cases b with
 |false=>rfl
 |true=>cases ks.any kB with
  |true=>rfl
  |false=>simp only [beq_self_eq_true,if_true,h2,Option.bind_some];rfl
structure SOk (s:List S50):Prop where
 len:s.length≤big
 ok:okL s
 few:tszL s≤many
def faultK (s:List S50):Int × Int:=if (scriptF s).1≠0 then scriptF s else if (tsL [] s).length > 10 then (17,-4) else (0,0)
structure Tried (s:List S50):Prop extends SOk s where
 val:okvL s
 sz:szL s≤100
 ten:(tsL [] s).length≤10
theorem tried {s:List S50} (h:SOk s) (h0:(faultK s).1=0):Tried s∧(scriptF s).1=0:=by
 unfold faultK at h0
 by_cases hf:(scriptF s).1=0
 ·obtain ⟨m,m1,m2,m3⟩:=qx9 hf
  rw [if_neg (by simp [hf])] at h0
  by_cases h10:(tsL [] s).length > 10
  ·rw [if_pos h10] at h0;cases h0
  ·exact ⟨⟨h,⟨0,1,m,by omega,m1⟩,m3,by omega⟩,hf⟩
 ·rw [if_pos hf] at h0;exact absurd h0 hf
def loopM (c:List S48) (s:List S50):Nat→Nat→List Bool→List Bool
 |0,_,rs=>rs
 |m+1,o,rs=>loopM c s m (o+1) (mark rs (runL o c s 0).1)
def loopK (c:List S48) (s:List S50):Nat→Nat→Bool→Bool
 |0,_,b=>b
 |m+1,o,b=>loopK c s m (o+1) (b&&keptB (runL o c s 0).2.1)
theorem pow_c (n:Nat) (hn:n≤10):IntKind.i64.wrap (1*((2:Int) ^ (Min.min (Int.toNat ((n:Nat):Int)) (IntKind.bits IntKind.i64))))=((2 ^ n:Nat):Int):=by
 have h:∀ i:_root_.Fin 11,IntKind.i64.wrap (1*((2:Int) ^ (Min.min (Int.toNat ((i.1:Nat):Int)) (IntKind.bits IntKind.i64))))=((2 ^ i.1:Nat):Int):=by decide
 exact h ⟨n,by omega⟩
theorem pow_le (n:Nat) (hn:n≤10):2 ^ n≤1024:=by
 have h:∀ i:_root_.Fin 11,2 ^ i.1≤1024:=by decide
 exact h ⟨n,by omega⟩
theorem rep_4 (n:Nat):List.replicate n [C.bool false]=q26n.encL (List.replicate n false):=by simp [EC.encL,q26n]
section
variable {s:List S50} (h:Tried s) (n0:Nat) (b0 b1:Int)
include h in
theorem q1ja (o:Nat) (rs:List Bool) (hr:rs.length=szL s):q1ig s 0 n0 o (szL s) 0 (tsL [] s) rs []=some (!(runL o (tsL [] s) s 0).2.2,(!(runL o (tsL [] s) s 0).2.2,((n0,((o:Int),(szL s,(runL o (tsL [] s) s 0).2.1.length))),(tsL [] s,(mark rs (runL o (tsL [] s) s 0).1,(runL o (tsL [] s) s 0).2.1.map actOf))))):=by
 have:=ex_s (o:Int) (tsL [] s) n0 (by omega) h.ten _ s rfl h.len h.ok h.val (tsL_in s []) 0 (szL s) 0 rs [] hr.symm rfl (by omega) (by omega) (by have:=h.sz;omega) (by have:=h.sz;omega)
 rw [this]
 simp [st]
include h in
include h in
theorem q1bz (t:Nat) (ht:t≤1024):∀ m (o:Nat) (rs:List Bool) (b:Bool),o+m=t→rs.length=szL s→q1gv s n0 (szL s) t o b b0 b1 (tsL [] s) rs=some ((s,((),((),(n0,(szL s,((t:Int),((t:Int),false))))))),(loopK (tsL [] s) s m o b,((b0,b1),(tsL [] s,loopM (tsL [] s) s m o rs)))):=by
 intro m
 induction m with
 |zero =>
  intro o rs b ho hr
  have ho:o=t:=by omega
  subst ho
  refine q1gx ?_
  simp only [q1h1,q26i,q26z,EC.decL_encL,EC.isL_encL]
  simp [loopM,loopK]
 |succ m ihm =>
  intro o rs b ho hr
  have e1:decide ((o:Int)<(t:Int))=true:=decide_eq_true (by omega)
  have e2:IntKind.i64.wrap ((o:Int)+1)=((o+1:Nat):Int):=q27y (n:=t) (by omega) (by omega)
  have hx:=q1ja h n0 o rs hr
  have hk:=h15_s (runL o (tsL [] s) s 0).2.1.length (runL o (tsL [] s) s 0).2.1 (by have:=(q1jb o (tsL [] s) s 0).2;have:=h.sz;unfold big;omega) b
  refine q1gx ?_
  simp only [q1h1,q26i,q26z,qg,EC.decL_encL,EC.isL_encL,e1,if_true,hx,Option.bind_some,hk,e2]
  exact ihm (o+1) _ _ (by omega) (by rw [q1fu,hr])
end
def reachF (s:List S50):List Bool:=if (faultK s).1=0 then loopM (tsL [] s) s (2 ^ (tsL [] s).length) 0 (List.replicate (szL s) false) else []
def lenF (s:List S50):Nat:=if (faultK s).1=0 then szL s else 0
def keepsF (s:List S50):Bool:=if (faultK s).1=0 then loopK (tsL [] s) s (2 ^ (tsL [] s).length) 0 true else true
theorem q1dz {s:List S50} (h:(faultK s).1=0):faultK s=(0,0):=by
 unfold faultK at *
 by_cases hf:(scriptF s).1=0
 ·rw [if_neg (by simp [hf])] at h ⊢
  by_cases h10:(tsL [] s).length > 10
  ·rw [if_pos h10] at h;cases h
  ·rw [if_neg h10]
 ·rw [if_pos hf] at h;exact absurd h hf
theorem q1c0 {s:List S50} (h:SOk s):q1gs s true=some ((lenF s,faultK s),((lenF s,faultK s),(reachF s,keepsF s))):=by
 have h1:=q11m s h.len h.ok
 refine q1gu ?_
 simp only [q1h5,q26i,q26z,qg,EC.decL_encL,EC.isL_encL,if_true,h1,Option.bind_some,qf3,bne_iff_ne]
 by_cases hf:(scriptF s).1=0
 ·have hT:=q1jq _ s rfl h.len h.ok [] (by have:=h.few;simp;omega)
  have hT:q1i2 0 s []=_:=hT
  rw [if_neg (by simp [hf])]
  simp only [hT,Option.bind_some,decide_eq_true_eq,qf5]
  by_cases h10:(tsL [] s).length > 10
  ·have hp:faultK s=(17,-4):=by unfold faultK;rw [if_neg (by simp [hf]),if_pos h10]
   rw [if_pos (by omega)]
   simp [lenF,reachF,keepsF,hp]
  ·have hp:faultK s=(0,0):=by unfold faultK;rw [if_neg (by simp [hf]),if_neg h10]
   obtain ⟨ht,_⟩:=tried h (by rw [hp])
   have hsz:=size_s s h.len h.ok
   have:=ht.sz
   rw [q27x (by omega)] at hsz
   have hl:=q1bz ht (tsL [] s).length 0 0 (2 ^ (tsL [] s).length) (pow_le _ (by omega)) (2 ^ (tsL [] s).length) 0 (List.replicate (szL s) false) true (by omega) (by simp)
   have hl:q1gv s (tsL [] s).length (szL s) ((2 ^ (tsL [] s).length:Nat):Int) 0 true 0 0 (tsL [] s) (List.replicate (szL s) false)=_:=hl
   rw [if_neg (by omega)]
   have hpw:=pow_c (tsL [] s).length (by omega)
   rw [Int.toNat_natCast] at hpw
   have q1:(0:Int)≤(szL s:Int):=by omega
   have q2:(szL s:Int)*(((1:Nat):Nat):Int)≤140737488355328:=by omega
   have q3:(szL s:Int)≤9223372036854775807:=by omega
   simp only [hsz,Option.bind_some,decide_true,q1,q2,q3,Bool.and_self,if_true,Int.toNat_natCast,rep_4,EC.decL_encL,EC.isL_encL,hpw,hl,none_s]
   simp [lenF,reachF,keepsF,hp]
 ·have hp:faultK s=scriptF s:=by unfold faultK;rw [if_pos hf]
  rw [if_pos hf]
  simp [lenF,reachF,keepsF,hp,hf]
theorem q1fg {s:List S50} (h:SOk s):q1gq s=some (keepsF s&&decide ((faultK s).1=0),faultK s):=by
 refine q1gp ?_
 simp only [q1gr,q26i,q26z,EC.decL_encL,EC.isL_encL,if_true,q1c0 h,Option.bind_some,qf3]
 cases keepsF s with
 |false=>simp
 |true =>
  by_cases hf:(faultK s).1=0
  ·simp [q1dz hf]
  ·simp [hf]
def bitsO:List Bool→Nat
 |[]=>0
 |b::l=>(if b=true then 1 else 0)+2*bitsO l
theorem q1du:∀ l:List Bool,bitsO l<2 ^ l.length
 |[]=>by simp [bitsO]
 |b::l=>by
  have:=q1du l
  rw [bitsO,List.length_cons,Nat.pow_succ]
  split <;> omega
theorem q1dt:∀ (l:List Bool) (i:Nat) (h:i<l.length),(bitsO l / 2 ^ i) % 2=if l[i]=true then 1 else 0
 |[],i,h=>by cases h
 |b::l,0,h=>by
  rw [bitsO]
  show (_ / 1) % 2=if b=true then 1 else 0
  rw [Nat.div_one]
  split <;> omega
 |b::l,i+1,h=>by
  have:=q1dt l i (by simpa using h)
  rw [bitsO,Nat.pow_succ,Nat.mul_comm (2 ^ i) 2,←Nat.div_div_eq_div_mul]
  have e:((if b=true then 1 else 0)+2*bitsO l) / 2=bitsO l:=by split <;> omega
  rw [e,List.getElem_cons_succ]
  exact this
theorem q1ds (l:List Bool) (i:Nat) (h:i<l.length):bitB ((bitsO l:Nat):Int) ((i:Nat):Int)=l[i]:=by
 have e:=q1dt l i h
 unfold bitB
 rw [Int.toNat_natCast]
 have e2:(((bitsO l:Nat):Int) / 2 ^ i) % 2=(((bitsO l / 2 ^ i) % 2:Nat):Int):=by
  rw [Int.natCast_emod,Int.natCast_ediv,Int.natCast_pow];rfl
 rw [e2,e]
 cases l[i] <;> rfl
theorem q1e8 (c:List S48) (t:S48):∀ k:Nat,hasB c t=true→∃ (i:Nat) (hi:i<c.length),fnd c t k=((k+i:Nat):Int)∧sameB c[i] t=true:=by
 induction c with
 |nil=>intro k h;cases h
 |cons x c ih =>
  intro k h
  unfold hasB at h
  rw [List.any_cons] at h
  unfold fnd
  cases hs:sameB x t with
  |true=>exact ⟨0,by simp,by simp,hs⟩
  |false =>
   rw [hs,Bool.false_or] at h
   obtain ⟨i,hi,e,g⟩:=ih (k+1) h
   refine ⟨i+1,by simp;omega,?_,g⟩
   rw [if_neg (by decide),e]
   congr 1;omega
theorem ba_ext {a b:ByteArray} (h:a.toList=b.toList):a=b:=by
 rw [ByteArray.toList_eq,ByteArray.toList_eq] at h
 cases a;cases b
 exact congrArg ByteArray.mk (Array.toList_inj.1 h)
theorem q1ec (o:Int) (c:List S48):∀ l:List S48,hAll o c l=l.all (hT o c)
 |[]=>by rw [hAll];rfl
 |t::l=>by rw [hAll,q1ec o c l];rfl
theorem q1ed (o:Int) (c:List S48):∀ l:List S48,hAny o c l=l.any (hT o c)
 |[]=>by rw [hAny];rfl
 |t::l=>by rw [hAny,q1ed o c l];rfl
theorem q1c1 {τ:Type} (p q:τ→Bool):∀ l:List τ,(∀ x∈l,p x=q x)→l.all p=!(l.any fun x=>q x==false)
 |[],_=>rfl
 |x::l,h=>by
  rw [List.all_cons,List.any_cons,q1c1 p q l (fun y hy=>h y (List.mem_cons_of_mem _ hy)),h x (List.mem_cons_self ..)]
  cases q x <;> simp
theorem q1c4 {τ:Type} (p q:τ→Bool):∀ l:List τ,(∀ x∈l,p x=q x)→l.any p=l.any fun x=>q x==true
 |[],_=>rfl
 |x::l,h=>by
  rw [List.any_cons,List.any_cons,q1c4 p q l (fun y hy=>h y (List.mem_cons_of_mem _ hy)),h x (List.mem_cons_self ..)]
  cases q x <;> simp
section
variable (f:ByteArray) (rc:List S118) (fs:List S55) (sz:Int)
def tO (t:S48):Bool:=(tsT f rc fs sz t []).1
theorem tO_of (t:S48) (m:MM):(tsT f rc fs sz t m).1=tO f rc fs sz t:=q1ju f rc fs sz t m []
theorem tsA_tO (k:Int):∀ (ts:List S48) (m:MM),(tsA f rc fs sz k ts m).1=if ts.any (fun t=>tO f rc fs sz t==(k==4))=true then (k==4) else (k==3)
 |[],m=>by rw [tsA];rfl
 |t::l,m=>by
  rw [tsA,tO_of,List.any_cons]
  by_cases h:tO f rc fs sz t=(k==4)
  ·rw [if_pos h,if_pos]
   rw [h];simp
  ·rw [if_neg h,tsA_tO k l]
   have:(tO f rc fs sz t==(k==4))=false:=by simpa using h
   rw [this,Bool.false_or]
theorem q1jg {a b:S48} (h:sameB a b=true) (ha:¬ (2≤b.Kind∧b.Kind≤4)):tO f rc fs sz a=tO f rc fs sz b:=by
 unfold sameB at h
 simp only [Bool.and_eq_true,beq_iff_eq] at h
 obtain ⟨h1,h2,h3,h4,h5⟩:=h
 have h2:=ba_ext h2
 have h4:=ba_ext h4
 unfold tO
 have n2:¬ b.Kind=2:=by omega
 have n34:¬ (b.Kind=3∨b.Kind=4):=by omega
 rw [tsT_eq f rc fs sz a,tsT_eq f rc fs sz b,h1,h2,h3,h4,h5]
 simp only [n2,n34,if_false]
theorem hT_tO (o:Int) (c:List S48) (hb:∀ (i:Nat) (h:i<c.length),bitB o ((i:Nat):Int)=tO f rc fs sz c[i]):∀ (q:Nat) (t:S48),tzT t=q→okvT t→inT c t→hT o c t=tO f rc fs sz t:=by
 intro q
 induction q using Nat.strongRecOn with
 |_ q ih =>
  intro t hq hv hin
  have hz:=tzT_eq t
  obtain ⟨hi1,hi2⟩:=(inT_eq c t).1 hin
  obtain ⟨⟨k1,k9⟩,hinn⟩:=qpg hv
  have ihc:∀ t'∈t.Tests,hT o c t'=tO f rc fs sz t':=fun t' ht'=>ih (tzT t') (by have:=tz_mem ht';omega) t' rfl (qpf hv ht') (q167 hi2 ht')
  rcases (by omega:t.Kind=1∨t.Kind=2∨t.Kind=3∨t.Kind=4∨t.Kind > 4) with h|h|h|h|h
  ·have e:hT o c t=true:=by rw [hT_eq,h];rfl
   have e3:tO f rc fs sz t=true:=by unfold tO;rw [tsT_eq,h];rfl
   rw [e,e3]
  ·have hlt:0<t.Tests.length:=by
    unfold innerB at hinn
    rw [h] at hinn
    simp at hinn
    omega
   have e:hT o c t=!hHd o c t.Tests:=by rw [hT_eq,h];rfl
   have e2:∀ (ts:List S48) (hl:0<ts.length),(tsH f rc fs sz ts []).1=!tO f rc fs sz ts[0]:=by
    intro ts hl
    cases ts with
    |nil=>cases hl
    |cons x l=>rw [tsH];rfl
   have e3:tO f rc fs sz t=(tsH f rc fs sz t.Tests []).1:=by unfold tO;rw [tsT_eq,h,if_pos rfl]
   rw [e,e3,e2 _ hlt,q1ee o c t.Tests hlt,ihc _ (List.getElem_mem hlt)]
  ·have e:hT o c t=hAll o c t.Tests:=by rw [hT_eq,h];rfl
   have e3:tO f rc fs sz t=(tsA f rc fs sz 3 t.Tests []).1:=by unfold tO;rw [tsT_eq,h,if_neg (by decide),if_pos (.inl rfl)]
   rw [e,e3,tsA_tO,q1ec,q1c1 _ _ _ ihc]
   show (!(t.Tests.any fun x=>tO f rc fs sz x==false))=if (t.Tests.any fun x=>tO f rc fs sz x==false)=true then false else true
   cases (t.Tests.any fun x=>tO f rc fs sz x==false) <;> rfl
  ·have e:hT o c t=hAny o c t.Tests:=by rw [hT_eq,h];rfl
   have e3:tO f rc fs sz t=(tsA f rc fs sz 4 t.Tests []).1:=by unfold tO;rw [tsT_eq,h,if_neg (by decide),if_pos (.inr rfl)]
   rw [e,e3,tsA_tO,q1ed,q1c4 _ _ _ ihc]
   show (t.Tests.any fun x=>tO f rc fs sz x==true)=if (t.Tests.any fun x=>tO f rc fs sz x==true)=true then true else false
   cases (t.Tests.any fun x=>tO f rc fs sz x==true) <;> rfl
  ·obtain ⟨i,hi,e,g⟩:=q1e8 c t 0 (hi1 h)
   rw [Nat.zero_add] at e
   have n1:(t.Kind==1)=false:=by simpa using (by omega:¬ t.Kind=1)
   have n2:(t.Kind==2)=false:=by simpa using (by omega:¬ t.Kind=2)
   have n3:(t.Kind==3)=false:=by simpa using (by omega:¬ t.Kind=3)
   have n4:(t.Kind==4)=false:=by simpa using (by omega:¬ t.Kind=4)
   rw [hT_eq,n1,n2,n3,n4,e]
   simp only [Bool.false_eq_true,if_false]
   rw [hb i hi]
   exact q1jg f rc fs sz g (by omega)
def sameRun (o:Int) (c:List S48) (i:Int) (a:List S45) (st:List S62) (u:Bool × MM × List S45 × List S62) (v:List Int × List Int × Bool):Prop :=
 u.1=!v.2.2∧u.2.2.1.map (fun x=>x.Kind)=a.map (fun x=>x.Kind)++v.2.1∧u.2.2.2.map (fun x=>x.Rule)=st.map (fun x=>x.Rule)++v.1
theorem q1dx (o:Int) (c:List S48) (hb:∀ (i:Nat) (h:i<c.length),bitB o ((i:Nat):Int)=tO f rc fs sz c[i]):∀ (q:Nat) (s:List S50),szL s=q→okvL s→inRL c s→∀ (i:Int) (m:MM) (a:List S45) (st:List S62),
  sameRun o c i a st (exL f rc fs sz s i m a st) (runL o c s i):=by
 intro q
 induction q using Nat.strongRecOn with
 |_ q ihq =>
  intro s
  induction s with
  |nil=>intro _ _ _ i m a st;rw [exL,runL];exact ⟨rfl,by simp,by simp⟩
  |cons r l ihl =>
   intro hq hv hin i m a st
   have hsz:szR r+szL l=q:=by simpa [szL] using hq
   have hr:=q27t r
   obtain ⟨hh,hvt,hve⟩:=okvR hv (List.mem_cons_self ..)
   have hvl:=q16j hv
   rw [inRL] at hin
   obtain ⟨hiT,hi2,hi3⟩:=(inR_eq c r).1 hin.1
   obtain ⟨hk,_,_,_⟩:=qtd hh
   have hR:sameRun o c i a st (exR f rc fs sz r i m a st) (runR o c r i):=by
    rcases (by omega:r.Kind=1∨r.Kind=2∨r.Kind=3∨r.Kind=4) with h|h|h|h
    ·have hk1:(r.Kind==1)=true:=by simpa using h
     have ht:=hT_tO f rc fs sz o c hb _ (tOf r) rfl (qpe hh hk1) (hiT hk1)
     have eR:runR o c r i=if hT o c (tOf r)=true then (i::(runL o c r.Then (i+1)).1,(runL o c r.Then (i+1)).2) else (i::(runL o c r.Else (i+1+szL r.Then)).1,(runL o c r.Else (i+1+szL r.Then)).2):=by rw [q1jc,h];rfl
     rw [exR_eq,if_pos h,tO_of,←ht,eR]
     cases hT o c (tOf r) with
     |true =>
      rw [if_pos rfl,if_pos rfl]
      obtain ⟨g1,g2,g3⟩:=ihq (szL r.Then) (by omega) r.Then rfl hvt hi2 (i+1) (tsT f rc fs sz (tOf r) m).2 a (st++[⟨i,true,noTx⟩])
      exact ⟨g1,g2,by rw [g3];simp⟩
     |false =>
      rw [if_neg (by decide),if_neg (by decide)]
      obtain ⟨g1,g2,g3⟩:=ihq (szL r.Else) (by omega) r.Else rfl hve hi3 (i+1+szL r.Then) (tsT f rc fs sz (tOf r) m).2 a (st++[⟨i,false,noTx⟩])
      exact ⟨g1,g2,by rw [g3];simp⟩
    ·have eR:runR o c r i=([i],[r.Act],false):=by rw [q1jc,h];rfl
     rw [exR_eq,if_neg (by omega),if_pos h,eR]
     exact ⟨rfl,by simp,by simp⟩
    ·have eR:runR o c r i=([i],[],false):=by rw [q1jc,h];rfl
     rw [exR_eq,if_neg (by omega),if_neg (by omega),if_pos h,eR]
     exact ⟨rfl,by simp,by simp⟩
    ·have eR:runR o c r i=([i],[],true):=by rw [q1jc,h];rfl
     rw [exR_eq,if_neg (by omega),if_neg (by omega),if_neg (by omega),eR]
     exact ⟨rfl,by simp,by simp⟩
   obtain ⟨h1,h2,h3⟩:=hR
   rw [exL,runL,h1]
   cases hst:(runR o c r i).2.2 with
   |true =>
    rw [if_neg (by decide),if_pos rfl]
    exact ⟨by rw [h1],h2,h3⟩
   |false =>
    rw [if_pos (show (!false)=true from rfl),if_neg (by decide)]
    obtain ⟨g1,g2,g3⟩:=ihq (szL l) (by omega) l rfl hvl hin.2 (i+szR r) (exR f rc fs sz r i m a st).2.1 (exR f rc fs sz r i m a st).2.2.1 (exR f rc fs sz r i m a st).2.2.2
    exact ⟨g1,by rw [g2,h2,List.append_assoc],by rw [g3,h3,List.append_assoc]⟩
def mailO (c:List S48):Nat:=bitsO (c.map (tO f rc fs sz))
theorem q1fr (c:List S48):mailO f rc fs sz c<2 ^ c.length:=by
 have:=q1du (c.map (tO f rc fs sz))
 rwa [List.length_map] at this
theorem q1fq (c:List S48) (i:Nat) (h:i<c.length):bitB ((mailO f rc fs sz c:Nat):Int) ((i:Nat):Int)=tO f rc fs sz c[i]:=by
 unfold mailO
 rw [q1ds _ i (by simpa using h),List.getElem_map]
end
theorem q1fp (c:List S48) (s:List S50):∀ (m o:Nat) (b:Bool),loopK c s m o b=true→b=true∧∀ q,o≤q→q<o+m→keptB (runL ((q:Nat):Int) c s 0).2.1=true
 |0,o,b,h=>by
  rw [loopK] at h
  exact ⟨h,fun q h1 h2=>by omega⟩
 |m+1,o,b,h=>by
  rw [loopK] at h
  obtain ⟨h1,h2⟩:=q1fp c s m (o+1) _ h
  rw [Bool.and_eq_true] at h1
  refine ⟨h1.1,fun q g1 g2=>?_⟩
  by_cases hq:q=o
  ·subst hq;exact h1.2
  ·exact h2 q (by omega) (by omega)
end Go.Proofs.YtokahibbkdbndaaGreatDoor
