/- strings.genericReplacer: WriteString. -/
import Derived.Test.YtmacbkjehjbjeaaGreatDoorZ31
import Derived.Deep.RegionWith
import Derived.Test.YtmacbkjehjbjeaaGreatDoorS10
import Derived.Laws.AppendOwn
namespace Go.Proofs.YtmacbkjehjbjeaaGreatDoor
open Go.RowKit
set_option maxRecDepth 100000
theorem qgd (p:Nat) (w:World):Calls Tryz.prog 266 #[.iface 335 (.pointer (some ⟨p,0,none⟩))] w fun e w'=>e=.returned (.iface 335 (.pointer (some ⟨p,0,none⟩)))∧w'=w:=by
 have hta:(Instr.typeAssert (.iface 335 (.pointer (some ⟨p,0,none⟩))) 337 339 true).run Tryz.prog w=.ok (.tuple #[.iface 335 (.pointer (some ⟨p,0,none⟩)),.bool true]) w:=by kernel_rfl
 go_enter Tryz.func266,Tryz.ntmps266
 go_wp2
 go_ret
 exact ⟨rfl,rfl⟩
theorem gen_o {c:UInt8} (h1:¬ c=13) (h2:¬ c=10) (r:List UInt8):genL (c::r)=c::genL r:=by
 cases r with
 |nil=>simp [genL,h1,h2]
 |cons d r=>simp [genL,h1,h2]
theorem gen_lf (r:List UInt8):genL (10::r)=13::10::genL r:=by
 cases r with
 |nil=>simp [genL]
 |cons d r=>simp [genL]
theorem gen_cr {r:List UInt8} (h:(r.take 1==[10])=false):genL (13::r)=13::10::genL r:=by
 cases r with
 |nil=>simp [genL]
 |cons d r =>
  have hd:¬ d=10:=by simpa using h
  simp [genL,hd]
theorem qg3 {r:List UInt8} (h:(r.take 1==[10])=true):genL (13::r)=13::10::genL (r.drop 1):=by
 cases r with
 |nil=>simp at h
 |cons d r =>
  have hd:d=10:=by simpa using h
  subst hd
  simp [genL]
theorem qg4:∀ l:List UInt8,(genL l).length≤2*l.length
 |[]=>by simp [genL]
 |[c]=>by simp only [genL];split <;> simp
 |c::d::r=>by
  have h1:=qg4 r
  have h2:=qg4 (d::r)
  simp only [List.length_cons] at h2
  simp only [genL]
  split
  ·split <;> simp only [List.length_cons] <;> omega
  ·split <;> simp only [List.length_cons] <;> omega
def bcs (l:List UInt8):List Value:=l.map fun b=>Value.int .u8 b.toNat
theorem qc3 (s:ByteArray) (i j:Nat):(s.extract i j).data.toList=(s.data.toList.drop i).take (j - i):=by
 rw [ByteArray.data_extract]
 simp [List.take_drop]
theorem qc4 {s:ByteArray} {i:Nat} (h:i≤s.size):(s.extract i s.size).size=s.size - i:=by
 rw [ByteArray.size_extract];omega
theorem Gen.below {w w':World} {N T n1 n2 n3 B:Nat} (h:Gen w N T n1 n2 n3) (hb:Below B w w') (hB:w.heap.size≤B):Gen w' N T n1 n2 n3:=by
 have ho:∀ {k j v},w.cell? ⟨k,j,none⟩=some v→w'.cell? ⟨k,j,none⟩=some v:=fun {k j v} hc=>(hb.cell (p:=⟨k,j,none⟩) (Nat.lt_of_lt_of_le (q7s hc) hB)).trans hc
 obtain ⟨v0,v1,v2,v4,v5,mp,t0,t1,a0,a1,a2,a3,a4,b0,b1,b2,b4,c0,c1,c2,c4⟩:=h
 exact ⟨ho v0,ho v1,ho v2,ho v4,ho v5,fun j hj=>ho (mp j hj),ho t0,ho t1,ho a0,ho a1,ho a2,ho a3,ho a4,ho b0,ho b1,ho b2,ho b4,ho c0,ho c1,ho c2,ho c4⟩
theorem cut_at {s:ByteArray} {L:List UInt8} (hL:s.data.toList=L) {i:Nat} (h:i<s.size):L.drop i=s[i]::L.drop (i+1):=by
 subst hL
 have h':i<s.data.toList.length:=by rw [Array.length_toList];exact h
 rw [List.drop_eq_getElem_cons h']
 rfl
theorem que {s:ByteArray} {L:List UInt8} (hL:s.data.toList=L) {i last:Nat} (h:i<s.size) (hl:last≤i):(L.drop last).take (i+1 - last)=(L.drop last).take (i - last)++[s[i]]:=by
 have hlen:L.length=s.size:=by rw [←hL,Array.length_toList];rfl
 have hd:i - last<(L.drop last).length:=by rw [List.length_drop];omega
 rw [show i+1 - last=(i - last)+1 by omega,List.take_succ_eq_append_getElem hd]
 congr 2
 rw [List.getElem_drop]
 subst hL
 have:last+(i - last)=i:=by omega
 simp only [this]
 rfl
theorem qc6 {s:ByteArray} {i:Nat} (h:i<s.size) (h':0<(s.extract i s.size).size):(s.extract i s.size)[0]=s[i]:=by
 have e:=qc3 s i s.size
 have hl:(s.extract i s.size).data.toList.length=(s.extract i s.size).size:=by rw [Array.length_toList];rfl
 have h1:(s.extract i s.size)[0]=(s.extract i s.size).data.toList[0]'(by omega):=rfl
 rw [h1]
 simp only [e,cut_at rfl h]
 rw [List.getElem_take]
 rfl
theorem qc5 {s:ByteArray} {L:List UInt8} (hL:s.data.toList=L) {i:Nat} (h:i<s.size):((s.extract i s.size).extract 1 (s.extract i s.size).size).data.toList=L.drop (i+1):=by
 have hlen:L.length=s.size:=by rw [←hL,Array.length_toList];rfl
 rw [qc3,qc3,hL,qc4 (Nat.le_of_lt h),List.take_of_length_le (l:=L.drop i) (by rw [List.length_drop];omega),List.drop_drop,List.take_of_length_le (by rw [List.length_drop];omega)]
theorem Buf.below {B p:Nat} {l:List Value} {w w':World} (h:Buf B p l w) (hb:Below w.heap.size w w'):Buf B p l w':=by
 obtain ⟨hB,v,h1,h2,h3⟩:=h
 refine ⟨hB,v,(hb.block p (lt_of_block h1)).trans h1,?_,h3⟩
 refine ⟨h2.1,?_⟩
 rcases h2.2 with h|⟨g,cap,cur,q1,q2,q3,q4⟩
 ·exact .inl h
 ·exact .inr ⟨g,cap,cur,q1,q2,(hb.block g (lt_of_block q3)).trans q3,q4⟩
set_option maxHeartbeats 8000000 in
theorem qge (N T n1 n2 n3 B p:Nat) (w0 w:World) (hg0:Gen w0 N T n1 n2 n3) (hB0:w0.heap.size≤B) (hb0:Below B w0 w) (s:ByteArray) (hs:s.size≤1000000000) (hb:Buf B p [] w) (hBw:B≤w.heap.size) :
  Calls Tryz.prog 265 #[.pointer (some ⟨N,0,none⟩),.iface 335 (.pointer (some ⟨p,0,none⟩)),.string s] w fun e w'=>∃ z,e=.returned (.tuple #[.int .i64 z,.nilIface])∧Buf B p (bcs (genL s.data.toList)) w'∧Below B w w':=by
 obtain ⟨L,hL⟩:∃ L,s.data.toList=L:=⟨_,rfl⟩
 have hLs:L.length=s.size:=by rw [←hL,Array.length_toList];rfl
 rw [hL]
 have hm : ∀ (w : World), (method 447 335 (.pointer (some ⟨p, 0, none⟩)) "WriteString").run Tryz.prog w = .ok (280, .pointer (some ⟨p, 0, none⟩)) w := fun _ => by kernel_rfl
 have hna : ∀ (w : World), (nilAhead 447 335 (.pointer (some ⟨p, 0, none⟩)) "WriteString").run Tryz.prog w = .ok (some false) w := fun _ => by kernel_rfl
 go_enter Tryz.func265,Tryz.ntmps265
 go_wp2_with (go_at_call 266;refine (qgd p _).mono ?_;rintro e w1 ⟨rfl,hw1⟩;have hw1:=hw1.symm;subst hw1)
 go_loopw [6,7,9,11,12] (fun u6 u7 u9 u11 u12 wr=>∃ (i last:Nat) (z:Int) (acc:List UInt8),u6=.int .i64 z∧u7=.nilIface∧u9=.int .i64 last∧u11=.bool false∧u12=.int .i64 i∧i≤s.size+1∧last≤i∧last≤s.size∧acc.length≤2*last∧acc++((L.drop last).take (i - last)++genL (L.drop i))=genL L∧Buf B p (bcs acc) wr∧Below B w wr∧B≤wr.heap.size)
  (fun _ _ _ _ u12 _=>s.size+1 - (vInt u12).toNat)
 case atStart=>exact ⟨0,0,0,[],rfl,rfl,rfl,rfl,rfl,by omega,by omega,by omega,by simp,by simp,hb,Below.refl _ _,hBw⟩
 case round =>
  obtain ⟨i,last,z,acc,rfl,rfl,rfl,rfl,rfl,hi,hli,hl,hac,heq,hbuf,hbw,hsz⟩:=hrel
  have hg:=hg0.below (hb0.trans hbw) hB0
  obtain ⟨v0,v1,v2,v4,v5,mp,t0,t1,a0,a1,a2,a3,a4,b0,b1,b2,b4,c0,c1,c2,c4⟩:=id hg
  by_cases h1:i=s.size+1
  ·subst h1
   have hd1:L.drop (s.size+1)=[]:=List.drop_eq_nil_iff.2 (by omega)
   rw [hd1,List.take_of_length_le (by rw [List.length_drop];omega)] at heq
   have y6:¬ ((s.size:Int)+1≤(s.size:Int)):=by omega
   by_cases hl2:last=s.size
   ·have hd2:L.drop last=[]:=List.drop_eq_nil_iff.2 (by omega)
    rw [hd2] at heq
    have hacc:acc=genL L:=by rw [←heq];simp [genL]
    subst hl2
    go_wp2
    go_ret2
    exact ⟨⟨z,rfl⟩,by rw [←hacc];exact hbuf,hbw⟩
   ·have y7:((last:Int) != (s.size:Int))=true:=by simp;omega
    have hm : ∀ (w : World), (method 447 335 (.pointer (some ⟨p, 0, none⟩)) "WriteString").run Tryz.prog w = .ok (280, .pointer (some ⟨p, 0, none⟩)) w := fun _ => by kernel_rfl
    have hsz1:B≤wr.drew.heap.size:=hsz
    have hlen1:(bcs acc).length+(s.extract last s.size).size≤140737488355328:=by
     have e1:(bcs acc).length=acc.length:=by simp [bcs]
     have e2:(s.extract last s.size).size≤s.size:=by rw [ByteArray.size_extract];omega
     omega
    go_wp2
    go_region_with (go_at_call 280;refine (q3w B p (bcs acc) _ (hbuf.below (Below.refl _ _).drew) (s.extract last s.size) hlen1 hsz1).mono ?_;rintro e w2 ⟨rfl,hbuf2,hB2⟩)
    go_wp2
    go_ret2
    refine ⟨_,rfl,?_,hbw.drew.trans hB2⟩
    rw [show bcs (genL L)=bcs acc++Lib.strCells (s.extract last s.size) by rw [Lib.strCells,qc3,hL,←heq,List.take_of_length_le (by rw [List.length_drop];omega)];simp [bcs,genL]]
    exact hbuf2
  by_cases h2:i=s.size
  ·subst h2
   have hxe:s.extract s.size s.size=⟨#[]⟩:=by apply ByteArray.ext;apply Array.toList_inj.1;rw [qc3];simp
   go_wp2_with (go_at_call 267;refine (qky _ N T n1 n2 n3 hg).mono ?_;rintro e w1 ⟨rfl,hw1⟩)
   have hbw1:Below B w w1:=hbw.trans (hw1.mono hsz)
   refine ⟨⟨s.size+1,last,z,acc,rfl,rfl,rfl,rfl,rfl,by omega,by omega,by omega,hac,?_,hbuf.below hw1,hbw1,Nat.le_trans hsz hw1.size⟩,by simp [vInt]⟩
   have hd1:L.drop (s.size+1)=[]:=List.drop_eq_nil_iff.2 (by omega)
   have hd2:L.drop s.size=[]:=List.drop_eq_nil_iff.2 (by omega)
   rw [←heq,hd1,hd2,List.take_of_length_le (by rw [List.length_drop];omega),List.take_of_length_le (by rw [List.length_drop];omega)]
  have hlt:i<s.size:=by omega
  have hi2:i≤s.size:=by omega
  have y1:(0:Int)≤(i:Int):=by omega
  have y2:(i:Int)<((s.size:Nat):Int):=by omega
  have y3:¬ ((i:Int)<0):=by omega
  have y4:(i:Int).toNat=i:=by simp
  have y5:((s[i].toNat:Nat):Int)<256:=by have:=s[i].toNat_lt;omega
  by_cases h13:s[i]=13
  ·cases hn:((L.drop (i+1)).take 1==[10]) with
   |false =>
    have mo:=mp 13 (by decide)
    have e13:s[i].toNat=13:=by rw [h13];rfl
    have x0:0<(s.extract i s.size).size:=by rw [qc4 hi2];omega
    have x1:(s.extract i s.size)[0]=13:=by rw [qc6 hlt x0,h13]
    go_wp2
    go_quiet (fail)
    go_wp2_with (go_at_call 267;refine (qkv _ N T n1 n2 n3 (hg.below (q69 (Below.refl _ _) _) (Nat.le_refl _)) _ x0 x1 (by rw [qc5 hL hlt];exact hn)).mono ?_;rintro e w1 ⟨rfl,hw1⟩)
    have hA1:Below B wr w1:=(q69 (Below.refl B wr) _).trans (hw1.mono hsz)
    have hbuf1:Buf B p (bcs acc) w1:=hbuf.below ((q69 (Below.refl _ _) _).trans hw1)
    have hsz1:B≤w1.drew.heap.size:=Nat.le_trans hsz hw1.size
    have hlen1:(bcs acc).length+(s.extract last i).size≤140737488355328:=by
     have e1:(bcs acc).length=acc.length:=by simp [bcs]
     have e2:(s.extract last i).size≤s.size:=by rw [ByteArray.size_extract];omega
     omega
    go_region_with (go_at_call 280;refine (q3w B p (bcs acc) _ (hbuf1.below (Below.refl _ _).drew) (s.extract last i) hlen1 hsz1).mono ?_;rintro e w2 ⟨rfl,hbuf2,hB2⟩)
    have hsz2:B≤w2.heap.size:=Nat.le_trans hsz1 hB2.size
    have hlen2:(bcs acc++Lib.strCells (s.extract last i)).length+(ByteArray.mk #[13,10]).size≤140737488355328:=by
     rw [List.length_append,Lib.strCells_length]
     have:(ByteArray.mk #[13,10]).size=2:=rfl
     have e1:(bcs acc).length=acc.length:=by simp [bcs]
     have e2:(s.extract last i).size≤s.size:=by rw [ByteArray.size_extract];omega
     omega
    go_wp2_with (go_at_call 280;refine (q3w B p (bcs acc++Lib.strCells (s.extract last i)) _ hbuf2 ⟨#[13,10]⟩ hlen2 hsz2).mono ?_;rintro e w3 ⟨rfl,hbuf3,hB3⟩)
    have hAll:Below B wr w3:=(hA1.drew.trans hB2).trans hB3
    refine ⟨⟨i+1,i+1,_,acc++(L.drop last).take (i - last)++[13,10],rfl,rfl,rfl,rfl,rfl,by omega,by omega,by omega,?_,?_,?_,hbw.trans hAll,Nat.le_trans hsz2 hB3.size⟩,by simp [vInt];omega⟩
    ·simp only [List.length_append,List.length_cons,List.length_nil]
     have:=List.length_take_le (i - last) (L.drop last)
     omega
    ·rw [←heq,cut_at hL hlt,h13,gen_cr hn,Nat.sub_self,List.take_zero]
     simp
    ·rw [show bcs (acc++(L.drop last).take (i - last)++[13,10])=bcs acc++Lib.strCells (s.extract last i)++Lib.strCells ⟨#[13,10]⟩ by rw [Lib.strCells,Lib.strCells,qc3,hL];simp [bcs]]
     exact hbuf3
   |true =>
    have hi3:i+2≤s.size:=by
     cases hd:L.drop (i+1) with
     |nil=>rw [hd] at hn;simp at hn
     |cons a l=>have:=congrArg List.length hd;rw [List.length_drop,List.length_cons] at this;omega
    have mo:=mp 13 (by decide)
    have e13:s[i].toNat=13:=by rw [h13];rfl
    have x0:0<(s.extract i s.size).size:=by rw [qc4 hi2];omega
    have x1:(s.extract i s.size)[0]=13:=by rw [qc6 hlt x0,h13]
    go_wp2
    go_quiet (fail)
    go_wp2_with (go_at_call 267;refine (qkw _ N T n1 n2 n3 (hg.below (q69 (Below.refl _ _) _) (Nat.le_refl _)) _ x0 x1 (by rw [qc5 hL hlt];exact hn)).mono ?_;rintro e w1 ⟨rfl,hw1⟩)
    have hA1:Below B wr w1:=(q69 (Below.refl B wr) _).trans (hw1.mono hsz)
    have hbuf1:Buf B p (bcs acc) w1:=hbuf.below ((q69 (Below.refl _ _) _).trans hw1)
    have hsz1:B≤w1.drew.heap.size:=Nat.le_trans hsz hw1.size
    have hlen1:(bcs acc).length+(s.extract last i).size≤140737488355328:=by
     have e1:(bcs acc).length=acc.length:=by simp [bcs]
     have e2:(s.extract last i).size≤s.size:=by rw [ByteArray.size_extract];omega
     omega
    go_region_with (go_at_call 280;refine (q3w B p (bcs acc) _ (hbuf1.below (Below.refl _ _).drew) (s.extract last i) hlen1 hsz1).mono ?_;rintro e w2 ⟨rfl,hbuf2,hB2⟩)
    have hsz2:B≤w2.heap.size:=Nat.le_trans hsz1 hB2.size
    have hlen2:(bcs acc++Lib.strCells (s.extract last i)).length+(ByteArray.mk #[13,10]).size≤140737488355328:=by
     rw [List.length_append,Lib.strCells_length]
     have:(ByteArray.mk #[13,10]).size=2:=rfl
     have e1:(bcs acc).length=acc.length:=by simp [bcs]
     have e2:(s.extract last i).size≤s.size:=by rw [ByteArray.size_extract];omega
     omega
    go_wp2_with (go_at_call 280;refine (q3w B p (bcs acc++Lib.strCells (s.extract last i)) _ hbuf2 ⟨#[13,10]⟩ hlen2 hsz2).mono ?_;rintro e w3 ⟨rfl,hbuf3,hB3⟩)
    have hAll:Below B wr w3:=(hA1.drew.trans hB2).trans hB3
    refine ⟨⟨i+2,i+2,_,acc++(L.drop last).take (i - last)++[13,10],rfl,rfl,rfl,rfl,rfl,by omega,by omega,by omega,?_,?_,?_,hbw.trans hAll,Nat.le_trans hsz2 hB3.size⟩,by simp [vInt];omega⟩
    ·simp only [List.length_append,List.length_cons,List.length_nil]
     have:=List.length_take_le (i - last) (L.drop last)
     omega
    ·rw [←heq,cut_at hL hlt,h13,qg3 hn,List.drop_drop,Nat.sub_self,List.take_zero]
     simp
    ·rw [show bcs (acc++(L.drop last).take (i - last)++[13,10])=bcs acc++Lib.strCells (s.extract last i)++Lib.strCells ⟨#[13,10]⟩ by rw [Lib.strCells,Lib.strCells,qc3,hL];simp [bcs]]
     exact hbuf3
  by_cases h10:s[i]=10
  ·have mo:=mp 10 (by decide)
   have e10:s[i].toNat=10:=by rw [h10];rfl
   have x0:0<(s.extract i s.size).size:=by rw [qc4 hi2];omega
   have x1:(s.extract i s.size)[0]=10:=by rw [qc6 hlt x0,h10]
   go_wp2
   go_quiet (fail)
   go_wp2_with (go_at_call 267;refine (qkx _ N T n1 n2 n3 (hg.below (q69 (Below.refl _ _) _) (Nat.le_refl _)) _ x0 x1).mono ?_;rintro e w1 ⟨rfl,hw1⟩)
   have hA1:Below B wr w1:=(q69 (Below.refl B wr) _).trans (hw1.mono hsz)
   have hbuf1:Buf B p (bcs acc) w1:=hbuf.below ((q69 (Below.refl _ _) _).trans hw1)
   have hsz1:B≤w1.drew.heap.size:=Nat.le_trans hsz hw1.size
   have hlen1:(bcs acc).length+(s.extract last i).size≤140737488355328:=by
    have e1:(bcs acc).length=acc.length:=by simp [bcs]
    have e2:(s.extract last i).size≤s.size:=by rw [ByteArray.size_extract];omega
    omega
   go_region_with (go_at_call 280;refine (q3w B p (bcs acc) _ (hbuf1.below (Below.refl _ _).drew) (s.extract last i) hlen1 hsz1).mono ?_;rintro e w2 ⟨rfl,hbuf2,hB2⟩)
   have hsz2:B≤w2.heap.size:=Nat.le_trans hsz1 hB2.size
   have hlen2:(bcs acc++Lib.strCells (s.extract last i)).length+(ByteArray.mk #[13,10]).size≤140737488355328:=by
    rw [List.length_append,Lib.strCells_length]
    have:(ByteArray.mk #[13,10]).size=2:=rfl
    have e1:(bcs acc).length=acc.length:=by simp [bcs]
    have e2:(s.extract last i).size≤s.size:=by rw [ByteArray.size_extract];omega
    omega
   go_wp2_with (go_at_call 280;refine (q3w B p (bcs acc++Lib.strCells (s.extract last i)) _ hbuf2 ⟨#[13,10]⟩ hlen2 hsz2).mono ?_;rintro e w3 ⟨rfl,hbuf3,hB3⟩)
   have hAll:Below B wr w3:=(hA1.drew.trans hB2).trans hB3
   refine ⟨⟨i+1,i+1,_,acc++(L.drop last).take (i - last)++[13,10],rfl,rfl,rfl,rfl,rfl,by omega,by omega,by omega,?_,?_,?_,hbw.trans hAll,Nat.le_trans hsz2 hB3.size⟩,by simp [vInt];omega⟩
   ·simp only [List.length_append,List.length_cons,List.length_nil]
    have:=List.length_take_le (i - last) (L.drop last)
    omega
   ·rw [←heq,cut_at hL hlt,h10,gen_lf,Nat.sub_self,List.take_zero]
    simp
   ·rw [show bcs (acc++(L.drop last).take (i - last)++[13,10])=bcs acc++Lib.strCells (s.extract last i)++Lib.strCells ⟨#[13,10]⟩ by rw [Lib.strCells,Lib.strCells,qc3,hL];simp [bcs]]
    exact hbuf3
  have mo:=mp s[i].toNat s[i].toNat_lt
  have q10:¬ s[i].toNat=10:=fun e=>h10 (UInt8.toNat_inj.1 e)
  have q13:¬ s[i].toNat=13:=fun e=>h13 (UInt8.toNat_inj.1 e)
  rw [if_neg q10,if_neg q13] at mo
  go_wp2
  go_quiet (fail)
  go_wp2
  go_roundw
  case rel =>
   refine ⟨i+1,last,z,acc,rfl,rfl,rfl,rfl,rfl,by omega,by omega,by omega,hac,?_,hbuf.below (q69 (Below.refl _ _) _),q69 hbw _,hsz⟩
   rw [←heq,cut_at hL hlt,gen_o h13 h10,que hL hlt hli,List.append_assoc,List.singleton_append]
  case measure=>simp [vInt];omega
end Go.Proofs.YtmacbkjehjbjeaaGreatDoor
namespace Go.Proofs.YtmacbkjehjbjeaaGreatDoor
open Go.RowKit
set_option maxRecDepth 100000
set_option maxHeartbeats 1600000 in
theorem q6x (b g c:Nat) (hc:6≤c) (w:World) (h4:w.cell? ⟨b,4,none⟩=some (.slice (some ⟨g,0,none⟩) 6 c)) (hc0:w.cell? ⟨g,0,none⟩=some (.string ⟨#[13,10]⟩)) (hc1:w.cell? ⟨g,1,none⟩=some (.string ⟨#[13,10]⟩)) (hc2:w.cell? ⟨g,2,none⟩=some (.string ⟨#[13]⟩)) (hc3:w.cell? ⟨g,3,none⟩=some (.string ⟨#[13,10]⟩)) (hc4:w.cell? ⟨g,4,none⟩=some (.string ⟨#[10]⟩)) (hc5:w.cell? ⟨g,5,none⟩=some (.string ⟨#[13,10]⟩)) :
  Calls Tryz.prog 127 #[.pointer (some ⟨b,0,none⟩)] w fun e w'=>∃ N T n1 n2 n3,e=.returned (.iface 212 (.pointer (some ⟨N,0,none⟩)))∧GenL w.heap.size w' N T n1 n2 n3∧Below w.heap.size w w':=by
 go_enter Tryz.func127,Tryz.ntmps127
 go_wp2
 refine wp_loop_rounds 1 ?_
 rw [rounds_succ]
 go_wp2_with (go_at_call 158;refine (qm7 g c hc _ hc0 hc1 hc2 hc3 hc4 hc5).mono ?_;rintro e w' ⟨N,T,n1,n2,n3,rfl,hR,hB⟩)
 go_ret
 exact ⟨N,T,n1,n2,n3,rfl,hR,hB⟩
structure Raw (w:World) (b g c:Nat):Prop where
 hc:6≤c
 hb:b<w.heap.size
 d0:w.cell? ⟨b,0,none⟩=some (.int .u32 0)
 d1:w.cell? ⟨b,1,none⟩=some (.int .i32 0)
 d3:∃ x,w.cell? ⟨b,3,none⟩=some x
 d4:w.cell? ⟨b,4,none⟩=some (.slice (some ⟨g,0,none⟩) 6 c)
 f:∀ j,w.frozen? ⟨b,j,none⟩=false
 g0:w.cell? ⟨g,0,none⟩=some (.string ⟨#[13,10]⟩)
 g1:w.cell? ⟨g,1,none⟩=some (.string ⟨#[13,10]⟩)
 g2:w.cell? ⟨g,2,none⟩=some (.string ⟨#[13]⟩)
 g3:w.cell? ⟨g,3,none⟩=some (.string ⟨#[13,10]⟩)
 g4:w.cell? ⟨g,4,none⟩=some (.string ⟨#[10]⟩)
 g5:w.cell? ⟨g,5,none⟩=some (.string ⟨#[13,10]⟩)
 ne:g≠b
theorem q6v (b g c:Nat) (hc:6≤c) (w:World) (hb:b<w.heap.size) (x3:Value) (h3:w.cell? ⟨b,3,none⟩=some x3) (h4:w.cell? ⟨b,4,none⟩=some (.slice (some ⟨g,0,none⟩) 6 c)) (f3:w.frozen? ⟨b,3,none⟩=false) (f4:w.frozen? ⟨b,4,none⟩=false)
  (hc0:w.cell? ⟨g,0,none⟩=some (.string ⟨#[13,10]⟩)) (hc1:w.cell? ⟨g,1,none⟩=some (.string ⟨#[13,10]⟩)) (hc2:w.cell? ⟨g,2,none⟩=some (.string ⟨#[13]⟩)) (hc3:w.cell? ⟨g,3,none⟩=some (.string ⟨#[13,10]⟩)) (hc4:w.cell? ⟨g,4,none⟩=some (.string ⟨#[10]⟩)) (hc5:w.cell? ⟨g,5,none⟩=some (.string ⟨#[13,10]⟩)) :
  Calls Tryz.prog 96 #[.pointer (some ⟨b,0,none⟩)] w fun e w'=>∃ N T n1 n2 n3 W1,e=.returned (.tuple #[])∧GenL w.heap.size W1 N T n1 n2 n3∧Below w.heap.size w W1∧w'=(W1.setCell ⟨b,3,none⟩ (.iface 212 (.pointer (some ⟨N,0,none⟩)))).setCell ⟨b,4,none⟩ (.slice none 0 0):=by
 go_enter Tryz.func96,Tryz.ntmps96
 go_wp2_with (go_at_call 127;refine (q6x b g c hc _ h4 hc0 hc1 hc2 hc3 hc4 hc5).mono ?_;rintro e W1 ⟨N,T,n1,n2,n3,rfl,hR,hB⟩;have h3':W1.cell? ⟨b,3,none⟩=some x3:=(hB.cell hb).trans h3;have h4':W1.cell? ⟨b,4,none⟩=some (.slice (some ⟨g,0,none⟩) 6 c):=(hB.cell hb).trans h4;have f3':W1.frozen? ⟨b,3,none⟩=false:=(hB.frozen hb).trans f3;have f4':W1.frozen? ⟨b,4,none⟩=false:=(hB.frozen hb).trans f4)
 go_end0
 exact ⟨N,T,n1,n2,n3,W1,rfl,hR,hB,rfl⟩
structure Built (w:World) (b:Nat) (w':World):Prop where
 ex:∃ N T n1 n2 n3,GenL w.heap.size w' N T n1 n2 n3∧w'.cell? ⟨b,3,none⟩=some (.iface 212 (.pointer (some ⟨N,0,none⟩)))
 os:w'.os=w.os
 tape:w'.tape=w.tape
 output:w'.output=w.output
 size:w.heap.size≤w'.heap.size
 block:∀ k,k<w.heap.size→k≠b→w'.heap[k]?=w.heap[k]?
theorem Gen.other {lo:Nat} {w w':World} {N T n1 n2 n3:Nat} (h:GenL lo w N T n1 n2 n3) (ho:∀ k j,lo≤k→w'.cell? ⟨k,j,none⟩=w.cell? ⟨k,j,none⟩):GenL lo w' N T n1 n2 n3:=by
 obtain ⟨⟨v0,v1,v2,v4,v5,mp,t0,t1,a0,a1,a2,a3,a4,b0,b1,b2,b4,c0,c1,c2,c4⟩,lN,lT,l1,l2,l3⟩:=h
 exact ⟨⟨(ho _ _ lN).trans v0,(ho _ _ lN).trans v1,(ho _ _ lN).trans v2,(ho _ _ lN).trans v4,(ho _ _ lN).trans v5,fun j hj=>(ho _ _ lN).trans (mp j hj),(ho _ _ lT).trans t0,(ho _ _ lT).trans t1,(ho _ _ l1).trans a0,(ho _ _ l1).trans a1,(ho _ _ l1).trans a2,(ho _ _ l1).trans a3,(ho _ _ l1).trans a4,(ho _ _ l2).trans b0,(ho _ _ l2).trans b1,(ho _ _ l2).trans b2,(ho _ _ l2).trans b4,(ho _ _ l3).trans c0,(ho _ _ l3).trans c1,(ho _ _ l3).trans c2,(ho _ _ l3).trans c4⟩,lN,lT,l1,l2,l3⟩
theorem GenL.set {lo:Nat} {w:World} {N T n1 n2 n3:Nat} (h:GenL lo w N T n1 n2 n3) (a:Addr) (ha:a.block<lo) (v:Value):GenL lo (w.setCell a v) N T n1 n2 n3 :=
 Gen.other h fun k j hk=>World.cell?_setCell_other w a ⟨k,j,none⟩ v (fun e=>by rw [e] at ha;simp only at ha;omega)
theorem GenL.drew {lo:Nat} {w:World} {N T n1 n2 n3:Nat} (h:GenL lo w N T n1 n2 n3):GenL lo w.drew N T n1 n2 n3 :=
 Gen.other h fun _ _ _=>World.cell?_drew w _
set_option maxHeartbeats 1600000 in
theorem qqs (b g c:Nat) (w:World) (h:Raw w b g c) :
  Calls Tryz.prog 126 #[.pointer (some ⟨b,0,none⟩),.func (.func 96) #[.pointer (some ⟨b,0,none⟩)] #[]] w fun e w'=>e=.returned (.tuple #[])∧Built w b w':=by
 obtain ⟨hc,hb,d0,d1,⟨x3,d3⟩,d4,f,g0,g1,g2,g3,g4,g5,ne⟩:=h
 have hs:(w.setCell ⟨b,1,none⟩ (.int .i32 1)).heap.size=w.heap.size:=by simp
 have o:∀ k j,(k≠b∨j≠1)→(w.setCell ⟨b,1,none⟩ (.int .i32 1)).cell? ⟨k,j,none⟩=w.cell? ⟨k,j,none⟩:=fun k j hk=>World.cell?_setCell_other w ⟨b,1,none⟩ ⟨k,j,none⟩ _ (fun e=>by injection e with e1 e2;rcases hk with h|h <;> omega)
 have hf:∀ a,(w.setCell ⟨b,1,none⟩ (.int .i32 1)).frozen? a=w.frozen? a:=fun a=>by go_simp
 have hl:=run_call_load (P:=Tryz.prog) Tryz.func153 (by kernel_rfl) (by kernel_rfl) (by kernel_rfl) .u32 (by kernel_rfl) (w:=w.setCell ⟨b,1,none⟩ (.int .i32 1)) (a:=⟨b,0,none⟩) (x:=0) ((o _ _ (.inr (by decide))).trans d0)
 have hnot:∀ (x:Bool) (w:World),(Op.unary .not (.bool x)).run Tryz.prog w=.ok (.bool (!x)) w:=fun _ _=>rfl
 go_enter_defers Tryz.func126,Tryz.ntmps126
 go_wp2_with (first|(go_at_call 154;refine (qkn ⟨b,1,none⟩ _ d1 (f 1)).mono ?_;rintro e w' ⟨rfl,rfl⟩)|(go_at_call 96;refine (q6v b g c hc _ (by rw [hs];exact hb) x3 ((o _ _ (.inr (by decide))).trans d3) ((o _ _ (.inr (by decide))).trans d4) ((hf _).trans (f 3)) ((hf _).trans (f 4)) ((o _ _ (.inl ne)).trans g0) ((o _ _ (.inl ne)).trans g1) ((o _ _ (.inl ne)).trans g2) ((o _ _ (.inl ne)).trans g3) ((o _ _ (.inl ne)).trans g4) ((o _ _ (.inl ne)).trans g5)).mono ?_;rintro e w' ⟨N,T,n1,n2,n3,W1,rfl,hR,hB,rfl⟩)|(go_at_call 125;go_in))
 rw [hs] at hR hB
 have hbb:=hb
 have k1:∀ j,j≠1→W1.cell? ⟨b,j,none⟩=w.cell? ⟨b,j,none⟩:=fun j hj=>(hB.cell hb).trans (o _ _ (.inr hj))
 have k2:W1.cell? ⟨b,1,none⟩=some (.int .i32 1):=(hB.cell hb).trans (World.cell?_setCell_same w ⟨b,1,none⟩ _ d1)
 have k3:∀ j,W1.frozen? ⟨b,j,none⟩=false:=fun j=>(hB.frozen hb).trans ((hf _).trans (f j))
 have so:∀ (W:World) (i j:Nat) v,i≠j→(W.setCell ⟨b,i,none⟩ v).cell? ⟨b,j,none⟩=W.cell? ⟨b,j,none⟩:=fun W i j v h=>World.cell?_setCell_other W ⟨b,i,none⟩ ⟨b,j,none⟩ v (fun e=>by injection e with _ e2;exact h e2)
 refine leaves_cons (f:=156) (args:=#[.pointer (some ⟨b,0,none⟩),.bool true]) (by simp) (by simp [go_sem]) ?_
 refine (qri ⟨b,0,none⟩ (.int .u32 0) .returning _ ?_ (by simp [k3])).mono ?_
 ·exact (so _ 4 0 _ (by decide)).trans ((so _ 3 0 _ (by decide)).trans ((k1 0 (by decide)).trans d0))
 rintro e u' w'' ⟨rfl,rfl,rfl⟩
 refine leaves_cons (f:=155) (args:=#[.pointer (some ⟨b,1,none⟩)]) (by simp [settle]) (by simp [go_sem]) ?_
 refine (quk ⟨b,1,none⟩ _ _ ?_ (by simp [k3])).mono ?_
 ·refine (so _ 0 1 _ (by decide)).trans ?_
  rw [World.cell?_drew]
  exact (so _ 4 1 _ (by decide)).trans ((so _ 3 1 _ (by decide)).trans k2)
 rintro e u' w'' ⟨rfl,rfl,rfl⟩
 have hB2:Built w b (((((W1.setCell ⟨b,3,none⟩ (.iface 212 (.pointer (some ⟨N,0,none⟩)))).setCell ⟨b,4,none⟩ (.slice none 0 0)).drew.setCell ⟨b,0,none⟩ (.int .u32 1))).setCell ⟨b,1,none⟩ (.int .i32 0)):=by
  have hZ:=(((((((Below.refl 0 w).setCell (p:=⟨b,1,none⟩) (Nat.zero_le _) (.int .i32 1)).trans (hB.mono (Nat.zero_le _))).setCell (p:=⟨b,3,none⟩) (Nat.zero_le _) (.iface 212 (.pointer (some ⟨N,0,none⟩)))).setCell (p:=⟨b,4,none⟩) (Nat.zero_le _) (.slice none 0 0)).drew).setCell (p:=⟨b,0,none⟩) (Nat.zero_le _) (.int .u32 1)).setCell (p:=⟨b,1,none⟩) (Nat.zero_le _) (.int .i32 0)
  refine ⟨⟨N,T,n1,n2,n3,((((hR.set ⟨b,3,none⟩ hb _).set ⟨b,4,none⟩ hb _).drew).set ⟨b,0,none⟩ hb _).set ⟨b,1,none⟩ hb _,?_⟩,?_,?_,?_,?_,?_⟩
  ·refine (so _ 1 3 _ (by decide)).trans ((so _ 0 3 _ (by decide)).trans ?_)
   rw [World.cell?_drew]
   exact (so _ 4 3 _ (by decide)).trans (World.cell?_setCell_same W1 ⟨b,3,none⟩ _ ((k1 3 (by decide)).trans d3))
  ·exact hZ.os
  ·exact hZ.tape
  ·exact hZ.output
  ·exact hZ.size
  ·intro k hk hne
   rw [Below.heap_setCell _ _ _ _ hne,Below.heap_setCell _ _ _ _ hne]
   show ((W1.setCell _ _).setCell _ _).heap[k]?=_
   rw [Below.heap_setCell _ _ _ _ hne,Below.heap_setCell _ _ _ _ hne,hB.block k hk,Below.heap_setCell _ _ _ _ hne]
 simp [Leaves,settle,results,Tryz.results126]
 exact hB2
set_option maxHeartbeats 1600000 in
theorem q97 (b g c:Nat) (w:World) (h:Raw w b g c) :
  Calls Tryz.prog 95 #[.pointer (some ⟨b,0,none⟩),.func (.func 96) #[.pointer (some ⟨b,0,none⟩)] #[]] w fun e w'=>e=.returned (.tuple #[])∧Built w b w':=by
 have hl:=run_call_load (P:=Tryz.prog) Tryz.func153 (by kernel_rfl) (by kernel_rfl) (by kernel_rfl) .u32 (by kernel_rfl) (w:=w) (a:=⟨b,0,none⟩) (x:=0) h.d0
 have hnot:∀ (x:Bool) (w:World),(Op.unary .not (.bool x)).run Tryz.prog w=.ok (.bool (!x)) w:=fun _ _=>rfl
 go_enter Tryz.func95,Tryz.ntmps95
 go_wp2_with (first|(go_at_call 126;refine (qqs b g c _ h).mono ?_;rintro e w' ⟨rfl,hB⟩)|(go_at_call 125;go_in))
 go_end0
 exact ⟨rfl,hB⟩
set_option maxRecDepth 100000
theorem q8j (W:World) (v:Value) (B:Nat) (l:List UInt8) (h:W.ownsRow B 5 1 v (bcs l).length (bcs l)):(convert 334 9 v).run Tryz.prog W=.ok (.string ⟨l.toArray⟩) W:=by
 rcases h.2 with ⟨rfl,h0⟩|⟨g,cap,cur,rfl,hB,hv,h1,h2,h3,h4⟩
 ·have:l=[]:=List.eq_nil_of_length_eq_zero (by simpa [bcs] using h0)
  subst this
  have:∀ W:World,(convert 334 9 (.slice none 0 0)).run Tryz.prog W=.ok (.string ⟨([]:List UInt8).toArray⟩) W:=fun _=>by kernel_rfl
  exact this W
 ·have hl:(bcs l).length=l.length:=by simp [bcs]
  rw [hl]
  refine run_convert_bytes_back W 334 9 5 ⟨g,0,none⟩ cap l Tryz.underlying334 Tryz.underlying5 Tryz.underlying9 (fun j hj=>?_)
  have e:(bcs l)[j]?=some (.int .u8 (l[j]).toNat):=by simp [bcs,hj]
  rw [←h4,Nat.mul_one,hl,List.getElem?_take,if_pos hj] at e
  have hadd:(⟨g,0,none⟩:Addr).add j=⟨g,j,none⟩:=by unfold Addr.add;split <;> simp_all
  rw [hadd]
  simp only [World.cell?,hv]
  simpa using e
set_option maxHeartbeats 1600000 in
theorem qok (lo N T n1 n2 n3:Nat) (w:World) (hg:GenL lo w N T n1 n2 n3) (s:ByteArray) (hs:s.size≤1000000000) :
  Calls Tryz.prog 264 #[.pointer (some ⟨N,0,none⟩),.string s] w fun e w'=>e=.returned (.string ⟨(genL s.data.toList).toArray⟩)∧Below w.heap.size w w':=by
 obtain ⟨i0,hi,hz0,hz1,hz2⟩:=infoU8
 obtain ⟨w1,hmk,hown,hgr⟩:=run_make_own (P:=Tryz.prog) w w.heap.size 334 5 i0 _ 1 Tryz.underlying334 hi hz0 hz1 .i64 .i64 s.size (by rw [hz2];omega) (by unfold maxLen;omega) (Nat.le_refl _)
 have hlt:w.heap.size<w1.heap.size:=(hown.lt _ rfl).2
 have hbuf:Buf w.heap.size w1.heap.size [] (w1.alloc (.cells #[.slice (some ⟨w.heap.size,0,none⟩) 0 s.size] 334)):=by
  refine ⟨Nat.le_of_lt hlt,.slice (some ⟨w.heap.size,0,none⟩) 0 s.size,by show (w1.heap.push _)[w1.heap.size]?=_;simp,⟨hown.1,?_⟩,?_⟩
  ·rcases hown.2 with h|⟨g,cap,cur,q1,q2,q3,q4⟩
   ·exact .inl h
   ·exact .inr ⟨g,cap,cur,q1,q2,(Below.heap_alloc w1 _ g (lt_of_block q3)).trans q3,q4⟩
  ·intro e
   injection e with e
   have e:w.heap.size=w1.heap.size:=e
   omega
 have hB1:Below w.heap.size w (w1.alloc (.cells #[.slice (some ⟨w.heap.size,0,none⟩) 0 s.size] 334)) :=
  (show Below w.heap.size w w1 from ⟨hgr.os,hgr.tape,hgr.output,hgr.size,fun k hk=>hgr.block k hk (by simp)⟩).alloc hgr.size _
 have hsz:w.heap.size≤(w1.alloc (.cells #[.slice (some ⟨w.heap.size,0,none⟩) 0 s.size] 334)).heap.size:=hB1.size
 clear hgr hown hi hz0 hz1 hz2
 go_enter Tryz.func264,Tryz.ntmps264
 go_wp2_with (go_at_call 265;refine (qge N T n1 n2 n3 w.heap.size w1.heap.size w _ hg.gen (Nat.le_refl _) hB1 s hs hbuf hsz).mono ?_;rintro e w' ⟨z,rfl,hbuf',hb'⟩;obtain ⟨hp0,v',hv',hrow,hne⟩:=hbuf';have c0:=cell_of_one hv';have hcv:=q8j w' v' _ _ hrow)
 go_ret
 exact ⟨rfl,hB1.trans hb'⟩
set_option maxRecDepth 100000
set_option maxHeartbeats 1600000 in
theorem qoz (b g c:Nat) (w:World) (h:Raw w b g c) (s:ByteArray) (hs:s.size≤1000000000) :
  Calls Tryz.prog 59 #[.pointer (some ⟨b,0,none⟩),.string s] w fun e w'=>e=.returned (.string ⟨(genL s.data.toList).toArray⟩)∧∃ W,Built w b W∧Below W.heap.size W w':=by
 have hm : ∀ (N : Nat) (w : World), (method 447 212 (.pointer (some ⟨N, 0, none⟩)) "Replace").run Tryz.prog w = .ok (264, .pointer (some ⟨N, 0, none⟩)) w := fun _ _ => by kernel_rfl
 go_enter Tryz.func59,Tryz.ntmps59
 go_wp2_with (first|(go_at_call 95;refine (q97 b g c _ h).mono ?_;rintro e W ⟨rfl,hB⟩;obtain ⟨⟨N,T,n1,n2,n3,hR,h3⟩,o1,o2,o3,o4,o5⟩:=id hB)|(go_at_call 264;refine (qok _ N T n1 n2 n3 _ hR s hs).mono ?_;rintro e w' ⟨rfl,hB2⟩))
 go_ret
 exact ⟨rfl,W,hB,hB2⟩
theorem heap3 (w:World) (A B C:Obj) :
  (((w.alloc A).alloc B).alloc C).drew.heap[w.heap.size+1]?=some B∧(((w.alloc A).alloc B).alloc C).drew.heap[w.heap.size+1+1]?=some C∧(((w.alloc A).alloc B).alloc C).drew.heap.size=w.heap.size+3:=by
 have hn:∀ (W:World) (X:Obj),(W.alloc X).heap[W.heap.size]?=some X:=fun W X=>by
  show (W.heap.push X)[W.heap.size]?=_
  simp
 have hs:∀ (W:World) (X:Obj),(W.alloc X).heap.size=W.heap.size+1:=fun W X=>by
  show (W.heap.push X).size=_
  simp
 have hd:∀ W:World,W.drew.heap=W.heap:=fun _=>rfl
 simp only [hd]
 refine ⟨?_,?_,?_⟩
 ·rw [Below.heap_alloc _ _ _ (by simp only [hs];omega),←hs w A,hn]
 ·rw [←hs w A,←hs (w.alloc A) B,hn]
 ·rw [hs,hs,hs]
set_option maxHeartbeats 1600000 in
theorem qmg (w:World):Calls Tryz.prog 58 #[.slice (some ⟨w.heap.size,0,none⟩) 6 6] (w.alloc (.cells #[.string ⟨#[13,10]⟩,.string ⟨#[13,10]⟩,.string ⟨#[13]⟩,.string ⟨#[13,10]⟩,.string ⟨#[10]⟩,.string ⟨#[13,10]⟩] 9)) fun e w'=>∃ b g c,e=.returned (.pointer (some ⟨b,0,none⟩))∧Raw w' b g c∧Below w.heap.size w w'∧w.heap.size≤b:=by
 go_enter Tryz.func58,Tryz.ntmps58
 go_wp2
 go_ret
 have hge:=grownCap_ge w 6 0 9
 obtain ⟨h1,h2,h3⟩:=heap3 w (.cells #[.string ⟨#[13,10]⟩,.string ⟨#[13,10]⟩,.string ⟨#[13]⟩,.string ⟨#[13,10]⟩,.string ⟨#[10]⟩,.string ⟨#[13,10]⟩] 9) (.cells (#[.string ⟨#[13,10]⟩,.string ⟨#[13,10]⟩,.string ⟨#[13]⟩,.string ⟨#[13,10]⟩,.string ⟨#[10]⟩,.string ⟨#[13,10]⟩]++Builtin.zeroCells #[.string ⟨#[]⟩] ((Question.appendCap 6 0 9).cut (w.tape w.drawn (Question.appendCap 6 0 9)) - 6)) 9) (.cells #[.int .u32 0,.int .i32 0,.int .u32 0,.nilIface,.slice (some ⟨w.heap.size+1,0,none⟩) 6 ((Question.appendCap 6 0 9).cut (w.tape w.drawn (Question.appendCap 6 0 9)))] 162)
 have hb:∀ (W:World) (X:Obj),Below w.heap.size w W→Below w.heap.size w (W.alloc X):=fun W X h=>h.alloc h.size X
 refine ⟨w.heap.size+1+1,w.heap.size+1,_,rfl,⟨hge,by rw [h3];omega,?_,?_,⟨.nilIface,?_⟩,?_,fun j=>?_,?_,?_,?_,?_,?_,?_,by omega⟩,(hb _ _ (hb _ _ (hb _ _ (Below.refl _ w)))).drew,by omega⟩
 ·simp only [World.cell?,h2];rfl
 ·simp only [World.cell?,h2];rfl
 ·simp only [World.cell?,h2];rfl
 ·simp only [World.cell?,h2];rfl
 ·simp only [World.frozen?,h2];simp
 ·simp only [World.cell?,h1];rw [Array.getElem?_append_left (by decide)];rfl
 ·simp only [World.cell?,h1];rw [Array.getElem?_append_left (by decide)];rfl
 ·simp only [World.cell?,h1];rw [Array.getElem?_append_left (by decide)];rfl
 ·simp only [World.cell?,h1];rw [Array.getElem?_append_left (by decide)];rfl
 ·simp only [World.cell?,h1];rw [Array.getElem?_append_left (by decide)];rfl
 ·simp only [World.cell?,h1];rw [Array.getElem?_append_left (by decide)];rfl
theorem qso (s:ByteArray) (hs:s.size≤1000000000) (w:World):Calls Tryz.prog 60 #[.string s,.string ⟨#[13,10]⟩] w fun e w'=>e=.returned (.bool (s.data.toList.drop (s.data.toList.length - 2)==[13,10]))∧w'=w:=by
 have hsz:s.data.toList.length=s.size:=by rw [Array.length_toList];rfl
 by_cases h2:2≤s.size
 ·have hw:wrap64 ((s.size:Int) - 2)=((s.size - 2:Nat):Int):=by unfold wrap64;omega
  have hw1:(0:Int)≤((s.size - 2:Nat):Int)∧((s.size - 2:Nat):Int)≤(s.size:Int):=by omega
  have hext:(s.extract (s.size - 2) s.size).toList=s.data.toList.drop (s.data.toList.length - 2):=by
   rw [ByteArray.toList_eq,ByteArray.data_extract,hsz]
   simp
   rw [List.take_of_length_le (by rw [List.length_drop];omega)]
  go_enter Tryz.func60,Tryz.ntmps60
  go_wp2
  go_ret
  refine ⟨?_,rfl⟩
  rw [hsz]
  rfl
 ·go_enter Tryz.func60,Tryz.ntmps60
  go_wp2
  go_ret
  refine ⟨?_,rfl⟩
  have:(s.data.toList.drop (s.data.toList.length - 2)==[13,10])=false:=by
   simp only [beq_eq_false_iff_ne,ne_eq]
   intro e
   have:=congrArg List.length e
   rw [List.length_drop] at this
   simp only [List.length_cons,List.length_nil] at this
   omega
  rw [hsz] at this
  rw [this]
  rfl
set_option maxHeartbeats 1600000 in
theorem qkd (s:ByteArray) (hs:s.size≤1000000) (w:World) :
  Calls Tryz.prog 35 #[.string s] w fun e w'=>e=.returned (.string ⟨(linL s.data.toList).toArray⟩)∧Below w.heap.size w w':=by
 have hel:=qg4 s.data.toList
 have hsl:s.data.toList.length=s.size:=by rw [Array.length_toList];rfl
 have hle:¬ 9223372036854775807<(genL s.data.toList).length+2:=by omega
 have hsz2:(⟨(genL s.data.toList).toArray⟩:ByteArray).size=(genL s.data.toList).length:=rfl
 have fin:∀ {w1 w' W:World} {b:Nat},Below w.heap.size w w1→w.heap.size≤b→Built w1 b W→Below W.heap.size W w'→Below w.heap.size w w':=fun {w1 w' W b} hb1 hbb hW hB=>by
  obtain ⟨_,o1,o2,o3,o4,o5⟩:=hW
  have hz1:=hb1.size
  refine ⟨hB.os.trans (o1.trans hb1.os),hB.tape.trans (o2.trans hb1.tape),hB.output.trans (o3.trans hb1.output),Nat.le_trans hz1 (Nat.le_trans o4 hB.size),fun k hk=>?_⟩
  rw [hB.block k (by omega),o5 k (by omega) (by omega),hb1.block k hk]
 cases hd:((genL s.data.toList).drop ((genL s.data.toList).length - 2)==[13,10]) with
 |true =>
  have hl:linL s.data.toList=genL s.data.toList:=by unfold linL;rw [if_pos (.inr (by simpa using hd))]
  go_enter Tryz.func35,Tryz.ntmps35
  go_wp2_with (first|(go_at_call 59;refine (qoz b g c _ hraw s (by omega)).mono ?_;rintro e w' ⟨rfl,W,hW,hB⟩)|(go_at_call 58;refine (qmg w).mono ?_;rintro e w1 ⟨b,g,c,rfl,hraw,hb1,hbb⟩)|(go_at_call 60;refine (qso _ (by rw [hsz2];omega) _).mono ?_;rintro e w2 ⟨rfl,hw2⟩;have hw2:=hw2.symm;subst hw2;rw [hd]))
  all_goals go_ret
  all_goals (refine ⟨?_,fin hb1 hbb hW hB⟩;rw [hl];first|rfl|(rename_i h0;rw [h0];rfl)|skip)
 |false =>
  go_enter Tryz.func35,Tryz.ntmps35
  go_wp2_with (first|(go_at_call 59;refine (qoz b g c _ hraw s (by omega)).mono ?_;rintro e w' ⟨rfl,W,hW,hB⟩)|(go_at_call 58;refine (qmg w).mono ?_;rintro e w1 ⟨b,g,c,rfl,hraw,hb1,hbb⟩)|(go_at_call 60;refine (qso _ (by rw [hsz2];omega) _).mono ?_;rintro e w2 ⟨rfl,hw2⟩;have hw2:=hw2.symm;subst hw2;rw [hd]))
  all_goals go_ret
  ·rename_i h0
   have hl:linL s.data.toList=[]:=by unfold linL;rw [if_pos (.inl h0),h0]
   refine ⟨?_,fin hb1 hbb hW hB⟩
   rw [hl]
   rfl
  ·rename_i h0 _
   have hl:linL s.data.toList=genL s.data.toList++[13,10]:=by
    unfold linL
    rw [if_neg]
    rintro (h|h)
    ·exact h0 h
    ·rw [h] at hd;simp at hd
   refine ⟨?_,fin hb1 hbb hW hB⟩
   rw [hl]
   show Ending.returned (.string (⟨(genL s.data.toList).toArray⟩++⟨#[13,10]⟩))=_
   rw [show (⟨(genL s.data.toList).toArray⟩++⟨#[13,10]⟩:ByteArray)=⟨(genL s.data.toList++[13,10]).toArray⟩ from by apply ByteArray.ext;simp]
  ·rename_i h0 h1
   exfalso
   cases hg:genL s.data.toList with
   |nil=>exact h0 hg
   |cons a l=>rw [hg] at h1;cases h1
end Go.Proofs.YtmacbkjehjbjeaaGreatDoor
