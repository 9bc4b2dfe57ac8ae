/- The closed test 'replied()' is run by the machine inside the kernel. -/
import Derived.Test.YtepmpilapglklaaGreatZ22
import Derived.Test.YtepmpilapglklaaGreatZ25
import Derived.Test.YtepmpilapglklaaGreatZ01
import Derived.Test.YtepmpilapglklaaGreatChecked
import Derived.ProofKit
import Derived.OpenShut
import Derived.JoinedCond
import Derived.Deep.Slices
import Derived.Deep.Fields
import Derived.Lib.SmallJoins
import Derived.Test.YtepmpilapglklaaGreatRows
namespace Go.Proofs.YtepmpilapglklaaGreat
open Go.RowKit
set_option maxRecDepth 1000000 in
theorem qrm:callD Tryz.prog (fzL lv) X0.c (execD Tryz.prog lv X0 200) 20 []=some (.c (.bool true),[]):=by kernel_rfl
def scr_ca:Cod (List V) Unit:=qai
def scr_cr:Cod (V×List B) Bool:=cFstU (cPair (vC cBool) qai)
def scrS:Option Bool:=some true
theorem qrl (x:Unit) (r:Bool) (h:scrS=some r):Call Tryz.prog lv X0 20 (scr_ca.enc x)=some (scr_cr.enc r):=by
 cases r with
 |true=>exact qd qrm
 |false=>unfold scrS at h;cases h
noncomputable def scr_e:=entS Tryz.prog lv X0 20 [] scr_ca scr_cr (fun _=>scrS) qrl
noncomputable def tabk:=scr_e::q1r6
end Go.Proofs.YtepmpilapglklaaGreat
namespace Go.Proofs.YtepmpilapglklaaGreat
open Go.RowKit
set_option maxRecDepth 100000
noncomputable section
def q1n2:=(qah (vC (cSl q1dj)) (qah (vAgg (qah (vC cStr) (qah (vC (cSl q1dk)) (qah (vC cStr) (qah (vC (cSl q5k)) (qaj (vC (cSl q5j)))))))) (qah (vC cStr) (qah (vC cStr) (qah (vC (cInt .i64)) (qaj (vC cStr)))))))
def q1n3:Cod (V×List B) Bool:=(cFstU (cPair (vC cBool) qai))
def q1n5 (r_:(List S44)) (m_Envelope_From:ByteArray) (m_Envelope_To:(List S81)) (m_Envelope_Id:ByteArray) (m_Message_Fields:(List S57)) (m_Message_Body:(List Int)) (me:ByteArray) (text:ByteArray) (now:Int) (value:ByteArray):Option Bool:=fS Tryz.prog lv X0 6 q1n2 q1n3 (r_,(m_Envelope_From,m_Envelope_To,m_Envelope_Id,m_Message_Fields,m_Message_Body),me,text,now,value)
def q1n6 (r_:(List S44)) (m_Envelope_From:ByteArray) (m_Envelope_To:(List S81)) (m_Envelope_Id:ByteArray) (m_Message_Fields:(List S57)) (m_Message_Body:(List Int)) (me:ByteArray) (text:ByteArray) (now:Int) (value:ByteArray):Option Bool :=
 (gdE ((((List.all (EC.encL q5k m_Message_Fields) (fun (el:(List C))=>((List.length el)==2)))&&(List.all [[(C.str (ByteArray.mk (List.toArray [(76:UInt8),(73:UInt8),(83:UInt8),(84:UInt8),(45:UInt8),(73:UInt8),(68:UInt8)]))),(C.str value)]] (fun (el:(List C))=>((List.length el)==2))))&&(decide (((((1+(List.length (EC.encL q5k m_Message_Fields)))+((1+(List.length (EC.encL q5k m_Message_Fields))) / 4))+192)*32)≤281474976710656)))&&(decide ((1+(List.length (EC.encL q5k m_Message_Fields)))≤9223372036854775807)))<|
 (gdE (EC.isL q1dj (EC.encL q1dj r_))<|
 (gdE (EC.isL q1dk (EC.encL q1dk m_Envelope_To))<|
 (gdE (EC.isL q5k ([[(C.str (ByteArray.mk (List.toArray [(76:UInt8),(73:UInt8),(83:UInt8),(84:UInt8),(45:UInt8),(73:UInt8),(68:UInt8)]))),(C.str value)]]++(EC.encL q5k m_Message_Fields)))<|
 (gdE (EC.isL q5j (EC.encL q5j m_Message_Body))<|
 (Option.bind (q1rw (EC.decL q1dj (EC.encL q1dj r_)) m_Envelope_From (EC.decL q1dk (EC.encL q1dk m_Envelope_To)) m_Envelope_Id (EC.decL q5k ([[(C.str (ByteArray.mk (List.toArray [(76:UInt8),(73:UInt8),(83:UInt8),(84:UInt8),(45:UInt8),(73:UInt8),(68:UInt8)]))),(C.str value)]]++(EC.encL q5k m_Message_Fields))) (EC.decL q5j (EC.encL q5j m_Message_Body)) me text now) fun r0 =>
 (brE ((r0.2.2.2.1 != 0)==false)
 (brE ((!r0.2.2.1)==true)
 (gdE (EC.isL q1dj (EC.encL q1dj r0.1))<|
 (gdE (EC.isL q1dj (EC.encL q1dj r_))<|
 ((q1nj (EC.decL q1dj (EC.encL q1dj r0.1)) (EC.decL q1dj (EC.encL q1dj r_))).bind fun r1 =>
 (brE (r1==true)
 (some true)
 (some false)))))
 (some false))
 (some true))))))))
theorem q1n4 {r_ m_Envelope_From m_Envelope_To m_Envelope_Id m_Message_Fields m_Message_Body me text now value r} (h:q1n6 r_ m_Envelope_From m_Envelope_To m_Envelope_Id m_Message_Fields m_Message_Body me text now value=some r):q1n5 r_ m_Envelope_From m_Envelope_To m_Envelope_Id m_Message_Fields m_Message_Body me text now value=some r :=
 q6x (es:=tabk) (hs:=[]) [] Tryz.func6 rfl (by kernel_rfl) rfl (by kernel_rfl) (by kernel_rfl) trivial trivial (by kernel_rfl) h
end
theorem q1a1 (x:ByteArray):(x==x)=true:=by
 first
 |exact beq_self_eq_true x
 |(show (x.data==x.data)=true;exact beq_self_eq_true _)
 |exact decide_eq_true rfl
theorem q1o7 (a:List S44) (hl:a.length≤2000000):∀ (m k:Nat),k+m=a.length→Ok (q1nb a a k) fun x=>Sum.elim (fun _=>False) (fun _=>True) x:=by
 intro m
 induction m with
 |zero =>
  intro k hk
  refine .via q1nd ?_
  unfold q1ni
  simp only [EC.decL_encL,EC.isL_encL,EC.encL_length,q1ka,q19t,q19u]
  exact q1ml (fun h=>absurd (of_decide_eq_true h) (by omega)) (fun _=>q1mn rfl (q1mn rfl (q1mo trivial)))
 |succ m ih =>
  intro k hk
  have hlt:k<a.length:=by omega
  have e2:IntKind.i64.wrap ((k:Int)+1)=((k+1:Nat):Int):=by rw [qvs (by omega)];rfl
  refine .via q1nd ?_
  unfold q1ni
  simp only [EC.decL_encL,EC.isL_encL,EC.encL_length,q1ka,q19t,q19u,Int.toNat_natCast,e2]
  refine q1ml (fun _=>?_) (fun h=>absurd (of_decide_eq_false h) (by omega))
  refine q1mn (by simp) (q1mn (by simp [hlt]) (q1mn (by simp) (q1mn (by simp [hlt]) ?_)))
  exact q1ml (fun h=>by rw [q1a1,beq_self_eq_true] at h;cases h) (fun _=>q1mn rfl (q1mn rfl (ih (k+1) (by omega))))
theorem q1o8 (a:List S44) (hl:a.length≤2000000):q1nj a a=some true:=q1na (by
 unfold q1nk
 refine keyO _ _ ?_
 simp only [EC.decL_encL,EC.isL_encL,EC.encL_length]
 refine q1ml (fun h=>by simp at h) (fun _=>q1mn rfl (q1mn rfl (q1mk (q1o7 a hl a.length 0 (by omega)) fun x hx=>?_)))
 rcases x with x|x
 ·exact hx.elim
 ·exact q1mo rfl)
theorem q1mi {r:List S44} {fr:ByteArray} {rc:List S81} {i:ByteArray} {f:List S57} {b:List Int} {me t:ByteArray} {now:Int} (hd:(vld r fr rc i f b me t now).1=0→dueB r fr f me now=false) (h0:(ans r fr rc i f b me t now).2.2.2.1=0) :
  (ans r fr rc i f b me t now).2.2.1=false∧(ans r fr rc i f b me t now).1=r∧(vld r fr rc i f b me t now).1=0:=by
 unfold ans at *
 by_cases h1:(vld r fr rc i f b me t now).1≠0
 ·rw [if_pos h1] at h0
  exact absurd h0 h1
 ·rw [if_neg h1,if_pos (hd (by simpa using h1))]
  exact ⟨rfl,rfl,by simpa using h1⟩
theorem q1di {r:List S44} {fr:ByteArray} {f:List S57} {me:ByteArray} {now:Int} (h:automB f=true):dueB r fr f me now=false:=by unfold dueB;rw [h];simp
theorem lit_f (a v:ByteArray):([[C.str a,C.str v]]:List (List C))=q5k.encL [⟨a,v⟩]:=rfl
theorem q1kl {r:List S44} {fr:ByteArray} {rc:List S81} {i:ByteArray} {b:List Int} {me:ByteArray} (h:VArg r fr rc i b me) (f:List S57) (hf:f.length≤2000000) (t:ByteArray) (now:Int) (value:ByteArray) :
  q1n5 r fr rc i f b me t now value=some true:=q1n4 (by
 unfold q1n6
 refine keyO _ _ ?_
 simp only [EC.decL_encL,EC.isL_encL,EC.encL_length,all_57,lit_f,q1dl]
 refine q1mn (by simp;omega) (q1mn rfl (q1mn rfl (q1mn rfl (q1mn rfl (q1mk (q1mm (ans_s h _ t now)) fun r0 hr0=>?_)))))
 refine q1ml (fun g=>?_) (fun g=>q1mo rfl)
 have g0:r0.2.2.2.1=0:=by simpa using g
 rw [hr0] at g0
 obtain ⟨h1,h2,h3⟩:=q1mi (fun _=>q1di (by
  unfold automB
  rw [List.any_append]
  rfl)) g0
 rw [←hr0] at h1 h2
 have hv:=(vld_ok h h3).1.len
 rw [h1,h2]
 exact q1ml (fun _=>q1mn rfl (q1mn rfl (q1mk (q1mm (q1o8 r (by omega))) fun r1 hr1=>q1ml (fun _=>q1mo rfl) (fun h9=>by rw [hr1] at h9;cases h9)))) (fun h9=>by cases h9))
end Go.Proofs.YtepmpilapglklaaGreat
namespace Go.Proofs.YtepmpilapglklaaGreat
open Go.ChangeShapes Go.WideShapes Go.ChangeAt Go.RowKit Go.Deep
theorem qk:ownKnob Tryz.prog.godebug=none:=by kernel_rfl
theorem qj:laidOutB Tryz.prog=true:=by kernel_rfl
section
variable {H:Type} {enc:TypeId×Value→H} {P:Program}
theorem qv0 (hl:laidOutB P=true) {W W':World} (hb:Bel W W'):∀ {ts:List TypeId} {vs:List Value} {ds:List (DataW H)} {ps:List MemPlace},ts.all (fun t=>P.readableRec t&&decide (t<P.types.size))=true →
  DataW.TrodAll enc P W 0 (fun _=>true) true ts vs ds ps→(∀ x∈ps,x.block<W.heap.size)→DataW.TrodAll enc P W' 0 (fun b=>decide (b<W.heap.size)) true ts vs ds ps
 |[],[],[],_,_,h,_=>h
 |[],[],_::_,_,_,h,_=>h.elim
 |[],_::_,_,_,_,h,_=>h.elim
 |_::_,[],_,_,_,h,_=>h.elim
 |_::_,_::_,[],_,_,h,_=>h.elim
 |t::ts,v::vs,d::ds,ps,hr,h,hlt=>by
  obtain ⟨p,q,h1,h2,rfl⟩:=h
  simp only [List.all_cons,Bool.and_eq_true,decide_eq_true_eq] at hr
  exact ⟨p,q,Below.trod hl hr.1.1 hr.1.2 h1 hb (fun x hx=>hlt x (List.mem_append_left _ hx)),qv0 hl hb hr.2 h2 (fun x hx=>hlt x (List.mem_append_right _ hx)),rfl⟩
theorem qaw {fn:Func} {s:ChangeSpec} {W W':World} {args:Array Value} {ds gs:List (DataW H)} {before:List MemPlace} {tb:TypeId} (hl:laidOutB P=true)
  (hr:fn.params.toList.all (fun t=>P.readableRec t&&decide (t<P.types.size))=true) (hrt:fn.resultTypes=#[tb]) (htb:P.underlying tb=some .bool) (hvars:s.vars=[])
  (hfn:s.fn H ds={ results:=[.lit (.bool true)],args:=ds })
  (hW:DataW.Whole enc P fn.params.toList s.vars false W args.toList ds gs before) (hb:Bel W W'):s.post enc P fn false true false false W args (.bool true) W':=by
 have hW':=hW
 have hlt:∀ x∈before,x.block<W.heap.size:=fun x hx=>hW.lt x hx
 obtain ⟨p,q,hA,hV,rfl,hfz,hnd⟩:=hW
 rw [hvars] at hV
 obtain ⟨rfl,rfl⟩:=trodVars_none hV
 have e:s.fn H (ds++[])={ results:=[.lit (.bool true)],args:=ds }:=by rw [List.append_nil];exact hfn
 refine ⟨ds,[],p++[],[],p,[],hW',?_,?_,?_,hb.frame _,fun h=>by cases h⟩
 ·rw [e,hrt]
  exact trodAll_mk1 (shut_bool htb true)
 ·rw [e]
  exact qv0 hl hb hr hA (fun x hx=>hlt x (by simpa using hx))
 ·rw [e,hvars]
  rfl
end
theorem q3w {H:Type} (d:DataW H):1≤Rows.uptoBulk d:=by
 cases d with
 |lit l=>cases l <;> simp [Rows.uptoBulk]
 |nil=>simp [Rows.uptoBulk]
 |ptr d=>simp [Rows.uptoBulk]
 |slice elems spare=>simp [Rows.uptoBulk]
 |agg parts=>simp [Rows.uptoBulk]
 |iface t d=>simp [Rows.uptoBulk]
 |map entries=>simp [Rows.uptoBulk]
 |held h=>simp [Rows.uptoBulk]
theorem q3u {H:Type}:∀ l:List (DataW H),l.length≤Rows.uptoBulkAll l
 |[]=>by simp
 |x::r=>by have:=q3w x;have:=q3u r;simp only [Rows.uptoBulkAll,List.length_cons];omega
theorem q3v {H:Type} {d:DataW H}:∀ {l:List (DataW H)},d∈l→Rows.uptoBulk d≤Rows.uptoBulkAll l
 |x::r,h=>by
  simp only [Rows.uptoBulkAll]
  rcases List.mem_cons.1 h with rfl|h
  ·omega
  ·have:=q3v h;omega
theorem q3x {H:Type} {l:List (DataW H)} (hk:Rows.uptoSmall H l=true):Rows.uptoBulkAll l≤1048576:=of_decide_eq_true hk
def Zw (w:World):ZMap:=fun b o=>w.cell? ⟨b,o,none⟩
def RepL (Z:ZMap):List Value→List C→Prop
 |[],[]=>True
 |u::us,x::xs=>RepC Z u x∧RepL Z us xs
 |_,_=>False
theorem RepL.len {Z:ZMap}:∀ {us:List Value} {xs:List C},RepL Z us xs→us.length=xs.length
 |[],[],_=>rfl
 |u::us,x::xs,h=>by simp [RepL.len h.2]
 |[],_::_,h=>h.elim
 |_::_,[],h=>h.elim
theorem RepL.get {Z:ZMap}:∀ {us:List Value} {xs:List C},RepL Z us xs→∀ (i:Nat) u x,us[i]?=some u→xs[i]?=some x→RepC Z u x
 |[],[],_,i,u,x,h,_=>by simp at h
 |u::us,x::xs,h,i,u',x',h1,h2=>by
  cases i with
  |zero=>simp at h1 h2;subst h1 h2;exact h.1
  |succ i=>simp at h1 h2;exact RepL.get h.2 i u' x' h1 h2
 |[],_::_,h,_,_,_,_,_=>h.elim
 |_::_,[],h,_,_,_,_,_=>h.elim
theorem RepL.agg {Z Y:ZMap} {m:Nat→Option Value} {us:List Value} {xs:List C} (h:RepL Z us xs):Rep Z Y m (.agg us.toArray) (.agg (xs.map .c)):=by
 refine .agg _ _ (by simp [h.len]) ?_ ?_
 ·intro u hu
  obtain ⟨i,hi,rfl⟩:=List.getElem_of_mem (by simpa using hu)
  have hx:i<xs.length:=by rw [←h.len];exact hi
  exact (h.get i _ _ (List.getElem?_eq_getElem hi) (List.getElem?_eq_getElem hx)).one
 ·intro i u x hu hx
  rw [List.getElem?_map] at hx
  cases hy:xs[i]? with
  |none=>rw [hy] at hx;cases hx
  |some y =>
   rw [hy] at hx
   injection hx with hx;subst hx
   exact .c (h.get i u y (by simpa using hu) hy)
theorem q7i {α:Type} {k:Nat}:∀ {css:List (List α)},(∀ cs∈css,cs.length=k)→∀ (i j:Nat) cs,css[i]?=some cs→j<k→css.flatten[i*k+j]?=cs[j]?
 |[],_,i,j,cs,h,_=>by simp at h
 |c::css,hk,i,j,cs,h,hj=>by
  have hc:c.length=k:=hk c (by simp)
  cases i with
  |zero =>
   simp at h;subst h
   rw [List.flatten_cons,List.getElem?_append_left (by omega)]
   simp
  |succ i =>
   simp at h
   rw [List.flatten_cons,List.getElem?_append_right (by rw [hc,Nat.add_mul];omega),←q7i (fun d hd=>hk d (by simp [hd])) i j cs h hj]
   congr 1
   rw [hc,Nat.add_mul];omega
theorem rd_rep {w:World} {k n c:Nat} {A:Option Addr} {css:List (List Value)} {es:List (List C)} (hr:Rd w k A n c css.flatten) (hn:css.length=n) (hN:A=none→c=0) (hk:0<k) (hcs:∀ cs∈css,cs.length=k) (hl:es.length=css.length)
  (he:∀ (i:Nat) cs e,css[i]?=some cs→es[i]?=some e→RepL (Zw w) cs e):RepC (Zw w) (.slice A n c) (.sl es):=by
 have helen:∀ e∈es,e.length=k:=fun e hm=>by
  obtain ⟨i,hi,rfl⟩:=List.getElem_of_mem hm
  have hx:i<css.length:=by omega
  rw [←(he i _ _ (List.getElem?_eq_getElem hx) (List.getElem?_eq_getElem hi)).len]
  exact hcs _ (List.getElem_mem hx)
 by_cases h0:es=[]
 ·subst h0
  have:n=0:=by rw [←hn,←hl];rfl
  exact .sl A n c k 0 0 (fun _=>.nilFunc) [] (by simp [this]) hr.le hr.2.2.1 (by simp) (by simp) (by simp) (by simp) hN
 ·have hn0:0<n*k:=by
   have:0<es.length:=List.length_pos_iff.2 h0
   exact Nat.mul_pos (by omega) hk
  obtain ⟨b,off,hA,_,hcell⟩:=hr.place hn0
  have hget:∀ (i:Nat) (e:List C) (j:Nat) (x:C),es[i]?=some e→e[j]?=some x→∃ u,css.flatten[i*k+j]?=some u∧RepC (Zw w) u x:=by
   intro i e j x h1 h2
   have hi:i<css.length:=by
    have:=(List.getElem?_eq_some_iff.1 h1).1
    omega
   have hj:j<k:=by
    rw [←helen e (List.mem_of_getElem? h1)]
    exact (List.getElem?_eq_some_iff.1 h2).1
   have hcl:=hcs _ (List.getElem_mem hi)
   have hu:css[i][j]?=some (css[i][j]'(by omega)):=List.getElem?_eq_getElem _
   exact ⟨_,by rw [q7i hcs i j css[i] (List.getElem?_eq_getElem hi) hj,hu],(he i _ e (List.getElem?_eq_getElem hi) h1).get j _ x hu h2⟩
  refine .sl A n c k b off (fun j=>(css.flatten[j]?).getD .nilFunc) es (by omega) hr.le hr.2.2.1 helen (fun _=>hA) ?_ ?_ hN
  ·intro i e j x h1 h2
   obtain ⟨u,hu,_⟩:=hget i e j x h1 h2
   simp only [hu,Option.getD_some]
   exact hcell _ _ hu
  ·intro i e j x h1 h2
   obtain ⟨u,hu,hr'⟩:=hget i e j x h1 h2
   simp only [hu,Option.getD_some]
   exact hr'
theorem qcl {H:Type} {enc:TypeId×Value→H} {P:Program} {w:World} {base:Nat} {spare:Nat→Bool} {held:Bool} {t e:TypeId} {fuel n c:Nat} {A:Option Addr} {x:DataW H×List MemPlace} (ht:P.underlying t=some (.slice e))
  (h:DataW.trod enc P w base spare held fuel t [.slice A n c]=some x):A=none→c=0:=by
 intro hA
 subst hA
 rcases open_slice ht h with ⟨hcs,_⟩|⟨a,len,cap,m,n',D,Pl,hcs,_⟩
 ·injection hcs with hcs
  injection hcs
 ·injection hcs with hcs
  injection hcs with h1
  cases h1
section
variable {H:Type} {enc:TypeId×Value→H} {P:Program}
theorem qdu {w:World} {base:Nat} {spare:Nat→Bool} {held:Bool} {t e:TypeId} {k fuel:Nat} {v:Value} {x:DataW H×List MemPlace} (ht:P.underlying t=some (.slice e)) (hC:P.cellsOf e=k) (hk:0<k)
  (h:DataW.trod enc P w base spare held fuel t [v]=some x) (hone:∀ fuel cs y,Rows.uptoBulk y.1<Rows.uptoBulk x.1→DataW.trod enc P w base spare held fuel e cs=some y→∀ u∈cs,u.oneCell'=true) :
  ∃ A n c css ds,v=.slice A n c∧Rd w k A n c (List.flatten css)∧css.length=n∧ds.length=n∧Rows.uptoBulkAll ds+1≤Rows.uptoBulk x.1∧∀ (i:Nat) cs d,css[i]?=some cs→ds[i]?=some d→cs.length=k∧∃ fuel pl,DataW.trod enc P w base spare held fuel e cs=some (d,pl):=by
 rcases open_slice ht h with ⟨hcs,_⟩|⟨a,len,cap,m,n,D,Pl,hcs,_,hl,hm,hmm,hxx,hi⟩
 ·injection hcs with hcs
  exact ⟨none,0,0,[],[],hcs,Rd.nil,rfl,rfl,by have:=q3w x.1;simp only [Rows.uptoBulkAll];omega,by simp⟩
 ·injection hcs with hcs
  have hlm:len≤m:=by rw [hmm];split <;> omega
  have hsum:Rows.uptoBulkAll ((List.range len).map D)+1≤Rows.uptoBulk x.1:=by rw [hxx];simp only [Rows.uptoBulk];omega
  have hDb:∀ i,i<len→Rows.uptoBulk (D i)<Rows.uptoBulk x.1:=fun i hi'=>by
   have:=q3v (List.mem_map.2 ⟨i,List.mem_range.2 hi',rfl⟩:D i∈(List.range len).map D)
   omega
  have hex:∀ i,i<len→∃ cs',w.cells? base (a.add (i*k)) k=some cs'∧DataW.trod enc P w base spare held n e cs'=some (D i,Pl i):=fun i hi'=>by
   have:=hi i (by omega)
   rwa [hC] at this
  obtain ⟨C,hCC⟩:=choose_lt (α:=List Value) (p:=fun i cs'=>w.cells? base (a.add (i*k)) k=some cs'∧DataW.trod enc P w base spare held n e cs'=some (D i,Pl i)) hex
  have hlen:∀ i,i<len→(C i).length=k:=fun i hi'=>(World.cells?_some (hCC i hi').1).2.1
  have hcell:∀ i,i<len→∀ j,j<k→w.cell? (a.add (i*k+j))=(C i)[j]?:=fun i hi' j hj=>by
   have:=(World.cells?_some (hCC i hi').1).2.2 j hj
   rwa [Go.Deep.add_add] at this
  have hfl:∀ m',m'≤len→(((List.range m').map C).flatten).length=m'*k:=by
   intro m' hm'
   induction m' with
   |zero=>simp
   |succ m' ih =>
    rw [List.range_succ,List.map_append,List.flatten_append,List.length_append,ih (by omega)]
    simp [hlen m' (by omega),Nat.add_mul]
  have hget:∀ m',m'≤len→∀ i j,i<m'→j<k→(((List.range m').map C).flatten)[i*k+j]?=(C i)[j]?:=by
   intro m' hm'
   induction m' with
   |zero=>intro i j hi';omega
   |succ m' ih =>
    intro i j hi' hj
    rw [List.range_succ,List.map_append,List.flatten_append]
    rcases Nat.lt_or_ge i m' with h'|h'
    ·rw [List.getElem?_append_left (by
      rw [hfl m' (by omega)]
      have:(i+1)*k≤m'*k:=Nat.mul_le_mul_right k h'
      rw [Nat.add_mul] at this
      omega)]
     exact ih (by omega) i j h' hj
    ·have:i=m':=by omega
     subst this
     rw [List.getElem?_append_right (by rw [hfl i (by omega)];omega),hfl i (by omega)]
     simp
  refine ⟨some a,len,cap,(List.range len).map C,(List.range len).map D,hcs,⟨by rw [hfl len (Nat.le_refl _)],hl,hm,?_,?_⟩,by simp,by simp,hsum,?_⟩
  ·intro u hu
   obtain ⟨cs,hcs',hu'⟩:=List.mem_flatten.1 hu
   obtain ⟨i,hi',rfl⟩:=List.mem_map.1 hcs'
   exact hone n _ _ (hDb i (by simpa using hi')) (hCC i (by simpa using hi')).2 u hu'
  ·intro hpos
   have hl0:0<len:=Nat.pos_of_mul_pos_right hpos
   have h00:=hcell 0 hl0 0 hk
   have hc0:(C 0)[0]?=some ((C 0)[0]'(by rw [hlen 0 hl0];exact hk)):=List.getElem?_eq_getElem _
   rw [hc0] at h00
   have hadd:(a.add (0*k+0))=a:=by simp [Addr.add]
   rw [hadd] at h00
   obtain ⟨b,off,spot⟩:=a
   have hsp:spot=none:=by
    cases spot with
    |none=>rfl
    |some s =>
     unfold World.cell? at h00
     split at h00 <;> simp at h00
   subst hsp
   refine ⟨b,off,rfl,?_,?_⟩
   ·rcases Nat.lt_or_ge b w.heap.size with hlt|hge
    ·exact hlt
    ·unfold World.cell? at h00
     rw [Array.getElem?_eq_none hge] at h00
     cases h00
   ·intro j u hu
    have hjl:j<len*k:=by
     rw [←hfl len (Nat.le_refl _)]
     rcases Nat.lt_or_ge j ((List.range len).map C).flatten.length with h'|h'
     ·exact h'
     ·rw [List.getElem?_eq_none h'] at hu;cases hu
    have hdm:j / k*k+j % k=j:=by rw [Nat.mul_comm];exact Nat.div_add_mod j k
    have hdl:j / k<len:=(Nat.div_lt_iff_lt_mul hk).2 hjl
    have h1:=hcell (j / k) hdl (j % k) (Nat.mod_lt _ hk)
    have h2:=hget len (Nat.le_refl _) (j / k) (j % k) hdl (Nat.mod_lt _ hk)
    rw [hdm] at h1 h2
    rw [h2] at hu
    rw [hu] at h1
    rw [←h1]
    unfold Addr.add
    split
    ·rename_i h0;subst h0;rfl
    ·rfl
  ·intro i cs d h1 h2
   have hi':i<len:=by
    have:=(List.getElem?_eq_some_iff.1 h1).1
    simpa using this
   rw [List.getElem?_map,List.getElem?_range hi'] at h1 h2
   simp only [Option.map_some,Option.some.injEq] at h1 h2
   subst h1 h2
   exact ⟨hlen i hi',n,_,(hCC i hi').2⟩
end
def All2 {α β:Type} (R:α→β→Prop):List α→List β→Prop
 |[],[]=>True
 |a::l,b::m=>R a b∧All2 R l m
 |_,_=>False
theorem q17 {α β:Type} {R:α→β→Prop}:∀ {l:List α} {m:List β},l.length=m.length→(∀ (i:Nat) a b,l[i]?=some a→m[i]?=some b→R a b)→All2 R l m
 |[],[],_,_=>trivial
 |a::l,b::m,h,hR=>⟨hR 0 a b rfl rfl,q17 (by simpa using h) fun i x y hx hy=>hR (i+1) x y hx hy⟩
 |[],_::_,h,_=>by cases h
 |_::_,[],h,_=>by cases h
theorem qgr {H:Type} {enc:TypeId×Value→H} {w:World} {t e:TypeId} {k fuel:Nat} {v:Value} {x:DataW H×List MemPlace} {τ:Type} (E:EC τ) (R:τ→DataW H→Prop) (ht:Tryz.prog.underlying t=some (.slice e)) (hC:Tryz.prog.cellsOf e=k) (hk:0<k)
  (h:DataW.trod enc Tryz.prog w 0 (fun _=>true) true fuel t [v]=some x)
  (hE:∀ fuel cs y,Rows.uptoBulk y.1<Rows.uptoBulk x.1→DataW.trod enc Tryz.prog w 0 (fun _=>true) true fuel e cs=some y→∃ a:τ,RepL (Zw w) cs (E.enc a)∧R a y.1) :
  ∃ (l:List τ) (ds:List (DataW H)),RepC (Zw w) v (.sl (E.encL l))∧Rows.uptoBulkAll ds+1≤Rows.uptoBulk x.1∧All2 R l ds:=by
 obtain ⟨A,n,c,css,ds,hv,hr,hn,hn',hsum,hcs⟩:=qdu ht hC hk h (fun fuel cs y hb hy u hu=>by
  obtain ⟨a,ha,_⟩:=hE fuel cs y hb hy
  obtain ⟨i,hi,rfl⟩:=List.getElem_of_mem hu
  have hx:i<(E.enc a).length:=by rw [←ha.len];exact hi
  exact (ha.get i _ _ (List.getElem?_eq_getElem hi) (List.getElem?_eq_getElem hx)).one)
 subst hv
 haveI:Inhabited τ:=⟨E.dec []⟩
 have hall:∀ i,i<css.length→∃ a:τ,(∀ cs,css[i]?=some cs→RepL (Zw w) cs (E.enc a))∧(∀ d,ds[i]?=some d→R a d):=fun i hi=>by
  have hi':i<ds.length:=by omega
  obtain ⟨_,fuel,pl,hy⟩:=hcs i _ _ (List.getElem?_eq_getElem hi) (List.getElem?_eq_getElem hi')
  have hb:=q3v (List.getElem_mem hi')
  obtain ⟨a,ha,hra⟩:=hE fuel _ _ (by show Rows.uptoBulk ds[i]<_;omega) hy
  exact ⟨a,fun cs h=>by rw [List.getElem?_eq_getElem hi] at h;injection h with h;subst h;exact ha,fun d h=>by rw [List.getElem?_eq_getElem hi'] at h;injection h with h;subst h;exact hra⟩
 obtain ⟨F,hF⟩:=choose_lt (α:=τ) (n:=css.length) hall
 refine ⟨(List.range css.length).map F,ds,rd_rep hr hn (qcl ht h) hk (fun cs hc=>by
  obtain ⟨i,hi,rfl⟩:=List.getElem_of_mem hc
  exact (hcs i _ _ (List.getElem?_eq_getElem hi) (List.getElem?_eq_getElem (show i<ds.length by omega))).1) (by simp [EC.encL]) ?_,hsum,q17 (by simp;omega) ?_⟩
 ·intro i cs e h1 h2
  have hi:i<css.length:=(List.getElem?_eq_some_iff.1 h1).1
  rw [EC.encL,List.getElem?_map,List.getElem?_map,List.getElem?_range hi] at h2
  simp only [Option.map_some,Option.some.injEq] at h2
  subst h2
  exact (hF i hi).1 cs h1
 ·intro i a d h1 h2
  have hi:i<css.length:=by have:=(List.getElem?_eq_some_iff.1 h1).1;simpa using this
  rw [List.getElem?_map,List.getElem?_range hi] at h1
  simp only [Option.map_some,Option.some.injEq] at h1
  subst h1
  exact (hF i hi).2 d h2
theorem two {α:Type} {l:List α} (h:l.length=2):∃ a b,l=[a,b]:=by
 match l,h with
 |[a,b],_=>exact ⟨a,b,rfl⟩
theorem three {α:Type} {l:List α} (h:l.length=3):∃ a b c,l=[a,b,c]:=by
 match l,h with
 |[a,b,c],_=>exact ⟨a,b,c,rfl⟩
theorem five {α:Type} {l:List α} (h:l.length=5):∃ a b c d e,l=[a,b,c,d,e]:=by
 match l,h with
 |[a,b,c,d,e],_=>exact ⟨a,b,c,d,e,rfl⟩
section
variable {H:Type} {enc:TypeId×Value→H} {w:World}
theorem q1od {a:ByteArray} {x:DataW H×List MemPlace} {q:List MemPlace} (h:x=(.lit (.string a.data.toList),q)):a.size+1=Rows.uptoBulk x.1:=by
 subst h
 simp only [Rows.uptoBulk,Array.length_toList]
 rfl
theorem q1mv {fuel:Nat} {cs:List Value} {y:DataW H×List MemPlace} (hb:Rows.uptoBulk y.1≤2000000) (h:DataW.trod enc Tryz.prog w 0 (fun _=>true) true fuel 81 cs=some y) :
  ∃ a:S81,RepL (Zw w) cs (q1dk.enc a)∧a.Address.size≤2000000:=by
 obtain ⟨xs,n,_,hx,hl,hxl,hf⟩:=DataW.trod_struct Tryz.underlying81 h
 have hc:Tryz.prog.cellsOf 81=2:=by kernel_rfl
 have c1:Tryz.prog.cellsOf 3=1:=by kernel_rfl
 have c2:Tryz.prog.cellsOf 9=1:=by kernel_rfl
 rw [hc] at hl
 obtain ⟨u0,u1,rfl⟩:=two hl
 obtain ⟨x0,x1,rfl⟩:=two hxl
 have h0:DataW.trod enc Tryz.prog w 0 (fun _=>true) true n 9 [u0]=some x0:=by have:=hf 0 _ rfl;simpa [c2] using this
 have h1:DataW.trod enc Tryz.prog w 0 (fun _=>true) true n 3 [u1]=some x1:=by have:=hf 1 _ rfl;simpa [c1] using this
 obtain ⟨a0,e0,z0,_⟩:=DataW.trod_string Tryz.underlying9 h0
 obtain ⟨a1,e1,_,_⟩:=DataW.trod_int Tryz.underlying3 h1
 injection e0 with e0;injection e1 with e1
 subst e0 e1
 have hs:=q1od z0
 have hbulk:Rows.uptoBulk x0.1≤2000000:=by
  rw [hx] at hb
  simp only [Rows.uptoBulk,List.map_cons,Rows.uptoBulkAll] at hb
  omega
 refine ⟨⟨a0,a1⟩,?_,?_⟩
 ·rw [enc_81]
  exact ⟨.str _,.int _ _,trivial⟩
 ·show a0.size≤2000000
  omega
theorem q1ms {fuel:Nat} {cs:List Value} {y:DataW H×List MemPlace} (h:DataW.trod enc Tryz.prog w 0 (fun _=>true) true fuel 57 cs=some y) :
  ∃ a:S57,RepL (Zw w) cs (q5k.enc a)∧True:=by
 obtain ⟨xs,n,_,hx,hl,hxl,hf⟩:=DataW.trod_struct Tryz.underlying57 h
 have hc:Tryz.prog.cellsOf 57=2:=by kernel_rfl
 have c2:Tryz.prog.cellsOf 9=1:=by kernel_rfl
 rw [hc] at hl
 obtain ⟨u0,u1,rfl⟩:=two hl
 obtain ⟨x0,x1,rfl⟩:=two hxl
 have h0:DataW.trod enc Tryz.prog w 0 (fun _=>true) true n 9 [u0]=some x0:=by have:=hf 0 _ rfl;simpa [c2] using this
 have h1:DataW.trod enc Tryz.prog w 0 (fun _=>true) true n 9 [u1]=some x1:=by have:=hf 1 _ rfl;simpa [c2] using this
 obtain ⟨a0,e0,z0,_⟩:=DataW.trod_string Tryz.underlying9 h0
 obtain ⟨a1,e1,_,_⟩:=DataW.trod_string Tryz.underlying9 h1
 injection e0 with e0;injection e1 with e1
 subst e0 e1
 refine ⟨⟨a0,a1⟩,?_,trivial⟩
 rw [q5z]
 exact ⟨.str _,.str _,trivial⟩
theorem q1mr {fuel:Nat} {cs:List Value} {y:DataW H×List MemPlace} (h:DataW.trod enc Tryz.prog w 0 (fun _=>true) true fuel 5 cs=some y) :
  ∃ a:Int,RepL (Zw w) cs (q5j.enc a)∧True:=by
 obtain ⟨a0,e0,_,_⟩:=DataW.trod_int Tryz.underlying5 h
 subst e0
 exact ⟨a0,⟨.int _ _,trivial⟩,trivial⟩
theorem q17j {R:S81→Prop}:∀ {l:List S81} {ds:List (DataW H)},All2 (fun a _=>R a) l ds→(∀ x∈l,R x)∧l.length=ds.length
 |[],[],_=>⟨by simp,rfl⟩
 |a::l,d::ds,h=>by
  obtain ⟨h1,h2⟩:=q17j h.2
  exact ⟨fun x hx=>by rcases List.mem_cons.1 hx with rfl|hx;exact h.1;exact h1 x hx,by simp [h2]⟩
 |[],_::_,h=>h.elim
 |_::_,[],h=>h.elim
theorem q17i {α β:Type} {R:α→β→Prop}:∀ {l:List α} {m:List β},All2 R l m→l.length=m.length
 |[],[],_=>rfl
 |_::l,_::m,h=>by simp [q17i h.2]
 |[],_::_,h=>h.elim
 |_::_,[],h=>h.elim
structure LOk (f:ByteArray) (rc:List S81) (bd:List Int):Prop where
 fr:f.size≤2000000
 rl:rc.length≤2000000
 ad:∀ x∈rc,x.Address.size≤2000000
 bl:bd.length≤2000000
set_option maxRecDepth 100000 in
theorem q1mu {d:DataW H} {p:List MemPlace} {v:Value} (hv:∃ cs:Array Value,v=.agg cs∧cs.size=Tryz.prog.cellsOf 31) (hb:Rows.uptoBulk d≤1048576) (h:DataW.Trod enc Tryz.prog w 0 (fun _=>true) true 31 v d p) :
  ∃ (f:ByteArray) (rc:List S81) (e:ByteArray) (fs:List S57) (bd:List Int),Rep (Zw w) (fun _ _=>none) noM v (.agg [.c (.str f),.c (.sl (q1dk.encL rc)),.c (.str e),.c (.sl (q5k.encL fs)),.c (.sl (q5j.encL bd))])∧LOk f rc bd∧fs.length≤1048576∧e.size≤1048576:=by
 obtain ⟨cs,rfl,hsz⟩:=hv
 obtain ⟨fuel,h⟩:=h
 obtain ⟨xs,n,_,hx,hl,hxl,hf⟩:=DataW.trod_struct Tryz.underlying31 h
 have hc:Tryz.prog.cellsOf 31=5:=by kernel_rfl
 have c1:Tryz.prog.cellsOf 25=3:=by kernel_rfl
 have c2:Tryz.prog.cellsOf 29=2:=by kernel_rfl
 have c3:Tryz.prog.cellsOf 9=1:=by kernel_rfl
 have c4:Tryz.prog.cellsOf 23=1:=by kernel_rfl
 have c5:Tryz.prog.cellsOf 26=1:=by kernel_rfl
 have c6:Tryz.prog.cellsOf 27=1:=by kernel_rfl
 rw [hc] at hl
 obtain ⟨l⟩:=cs
 obtain ⟨u0,u1,u2,u3,u4,rfl⟩:=five hl
 obtain ⟨x0,x1,rfl⟩:=two hxl
 have h0:DataW.trod enc Tryz.prog w 0 (fun _=>true) true n 25 [u0,u1,u2]=some x0:=by have:=hf 0 _ rfl;simpa [Value.cells,c1] using this
 have h1:DataW.trod enc Tryz.prog w 0 (fun _=>true) true n 29 [u3,u4]=some x1:=by have:=hf 1 _ rfl;simpa [Value.cells,c2] using this
 obtain ⟨ys,n1,_,hy,hyl,hyn,hg⟩:=DataW.trod_struct Tryz.underlying25 h0
 obtain ⟨zs,n2,_,hz,hzl,hzn,hk⟩:=DataW.trod_struct Tryz.underlying29 h1
 obtain ⟨y0,y1,y2,rfl⟩:=three hyn
 obtain ⟨z0,z1,rfl⟩:=two hzn
 have g0:DataW.trod enc Tryz.prog w 0 (fun _=>true) true n1 9 [u0]=some y0:=by have:=hg 0 _ rfl;simpa [c3] using this
 have g1:DataW.trod enc Tryz.prog w 0 (fun _=>true) true n1 23 [u1]=some y1:=by have:=hg 1 _ rfl;simpa [c4] using this
 have g2:DataW.trod enc Tryz.prog w 0 (fun _=>true) true n1 9 [u2]=some y2:=by have:=hg 2 _ rfl;simpa [c3] using this
 have k0:DataW.trod enc Tryz.prog w 0 (fun _=>true) true n2 26 [u3]=some z0:=by have:=hk 0 _ rfl;simpa [c5] using this
 have k1:DataW.trod enc Tryz.prog w 0 (fun _=>true) true n2 27 [u4]=some z1:=by have:=hk 1 _ rfl;simpa [c6] using this
 obtain ⟨a0,e0,b0,_⟩:=DataW.trod_string Tryz.underlying9 g0
 obtain ⟨a2,e2,b2,_⟩:=DataW.trod_string Tryz.underlying9 g2
 injection e0 with e0;injection e2 with e2
 subst e0 e2
 have hs0:=q1od b0
 have hs2:=q1od b2
 have hall:Rows.uptoBulk y0.1+Rows.uptoBulk y1.1+Rows.uptoBulk y2.1+Rows.uptoBulk z0.1+Rows.uptoBulk z1.1≤1048576:=by
  have ed:=congrArg Prod.fst hx
  simp only [List.map_cons,List.map_nil] at ed
  rw [ed,hy,hz] at hb
  simp only [Rows.uptoBulk,List.map_cons,List.map_nil,Rows.uptoBulkAll] at hb
  omega
 obtain ⟨rc,ds,r1,hsum,q1⟩:=qgr (k:=2) q1dk (fun a _=>a.Address.size≤2000000) Tryz.underlying23 (by kernel_rfl) (by decide) g1 (fun fuel cs y hlt hy=>q1mv (by omega) hy)
 obtain ⟨fs,ds',r3,hsum',q3⟩:=qgr (k:=2) q5k (fun _ _=>True) Tryz.underlying26 (by kernel_rfl) (by decide) k0 (fun fuel cs y hlt hy=>q1ms hy)
 obtain ⟨bd,ds2,r4,hsum2,q4⟩:=qgr (k:=1) q5j (fun _ _=>True) Tryz.underlying27 (by kernel_rfl) (by decide) k1 (fun fuel cs y hlt hy=>q1mr hy)
 obtain ⟨q5,q6⟩:=q17j q1
 have q7:=q17i q3
 have q8:=q17i q4
 have w1:=q3u ds
 have w2:=q3u ds'
 have w3:=q3u ds2
 refine ⟨a0,rc,a2,fs,bd,RepL.agg (us:=[.string a0,u1,.string a2,u3,u4]) (xs:=[.str a0,.sl (q1dk.encL rc),.str a2,.sl (q5k.encL fs),.sl (q5j.encL bd)]) ⟨.str _,r1,.str _,r3,r4,trivial⟩,⟨by omega,by omega,q5,by omega⟩,by omega,by omega⟩
theorem q1mx {fuel:Nat} {cs:List Value} {y:DataW H×List MemPlace} (hb:Rows.uptoBulk y.1≤2000000) (h:DataW.trod enc Tryz.prog w 0 (fun _=>true) true fuel 44 cs=some y) :
  ∃ a:S44,RepL (Zw w) cs (q1dj.enc a)∧a.Sender.size≤2000000:=by
 obtain ⟨xs,n,_,hx,hl,hxl,hf⟩:=DataW.trod_struct Tryz.underlying44 h
 have hc:Tryz.prog.cellsOf 44=2:=by kernel_rfl
 have c1:Tryz.prog.cellsOf 3=1:=by kernel_rfl
 have c2:Tryz.prog.cellsOf 9=1:=by kernel_rfl
 rw [hc] at hl
 obtain ⟨u0,u1,rfl⟩:=two hl
 obtain ⟨x0,x1,rfl⟩:=two hxl
 have h0:DataW.trod enc Tryz.prog w 0 (fun _=>true) true n 9 [u0]=some x0:=by have:=hf 0 _ rfl;simpa [c2] using this
 have h1:DataW.trod enc Tryz.prog w 0 (fun _=>true) true n 3 [u1]=some x1:=by have:=hf 1 _ rfl;simpa [c1] using this
 obtain ⟨a0,e0,z0,_⟩:=DataW.trod_string Tryz.underlying9 h0
 obtain ⟨a1,e1,_,_⟩:=DataW.trod_int Tryz.underlying3 h1
 injection e0 with e0;injection e1 with e1
 subst e0 e1
 have hs:=q1od z0
 have hbulk:Rows.uptoBulk x0.1≤2000000:=by
  rw [hx] at hb
  simp only [Rows.uptoBulk,List.map_cons,Rows.uptoBulkAll] at hb
  omega
 refine ⟨⟨a0,a1⟩,?_,?_⟩
 ·rw [enc_44]
  exact ⟨.str _,.int _ _,trivial⟩
 ·show a0.size≤2000000
  omega
theorem q17k {R:S44→Prop}:∀ {l:List S44} {ds:List (DataW H)},All2 (fun a _=>R a) l ds→∀ x∈l,R x
 |[],[],_=>by simp
 |a::l,d::ds,h=>by
  have h1:=q17k h.2
  exact fun x hx=>by
   rcases List.mem_cons.1 hx with rfl|hx
   ·exact h.1
   ·exact h1 x hx
 |[],_::_,h=>h.elim
 |_::_,[],h=>h.elim
set_option maxRecDepth 100000 in
theorem q1mw {d:DataW H} {p:List MemPlace} {v:Value} (hv:∃ a n c,v=.slice a n c) (hb:Rows.uptoBulk d≤1048576) (h:DataW.Trod enc Tryz.prog w 0 (fun _=>true) true 22 v d p) :
  ∃ l:List S44,Rep (Zw w) (fun _ _=>none) noM v (.c (.sl (q1dj.encL l)))∧szR l:=by
 obtain ⟨a,n,c,rfl⟩:=hv
 obtain ⟨fuel,hf⟩:=h
 obtain ⟨l,ds,rc,hsum,h2'⟩:=qgr (k:=2) q1dj (fun a _=>a.Sender.size≤2000000) Tryz.underlying22 (by kernel_rfl) (by decide) hf (fun fuel cs y hlt hy=>q1mx (by simp only at hlt;omega) hy)
 exact ⟨l,.c rc,q17k h2'⟩
theorem q1my {d:DataW H} {p:List MemPlace} {v:Value} (hv:∃ s,v=.string s) (hb:Rows.uptoBulk d≤1048576) (h:DataW.Trod enc Tryz.prog w 0 (fun _=>true) true 9 v d p) :
  ∃ x:ByteArray,Rep (Zw w) (fun _ _=>none) noM v (.c (.str x))∧x.size≤1048576:=by
 obtain ⟨s,rfl⟩:=hv
 obtain ⟨fuel,h⟩:=h
 obtain ⟨a,e,z,_⟩:=DataW.trod_string Tryz.underlying9 h
 injection e with e
 injection e with e
 subst e
 have:=q1od z
 simp only at this
 exact ⟨s,.c (.str _),by omega⟩
theorem q1mt {v:Value} (hv:∃ n,v=.int .i64 n):∃ n:Int,Rep (Zw w) (fun _ _=>none) noM v (.c (.int .i64 n)):=by
 obtain ⟨n,rfl⟩:=hv
 exact ⟨n,.c (.int _ _)⟩
end
end Go.Proofs.YtepmpilapglklaaGreat
