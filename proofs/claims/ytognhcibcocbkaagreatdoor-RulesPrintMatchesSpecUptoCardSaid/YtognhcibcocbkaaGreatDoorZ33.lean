/- rules.quote. -/
import Derived.Test.YtognhcibcocbkaaGreatDoorZ32
import Derived.Laws.AppendOwn
import Derived.Shelf.Strconv.AtoiAll
import Derived.Lib.AtoiAllCases
import Derived.Test.YtognhcibcocbkaaGreatDoorZ30
import Derived.Shelf.Vars
import Derived.HandedShaped
import Derived.ChangeMaps5
import Derived.Deep.DeepHandedRow
import Derived.Lib.LaidU8
import Derived.Lib.LaidIn
namespace Go.Proofs.YtognhcibcocbkaaGreatDoor
open Go.RowKit
set_option maxRecDepth 100000
set_option maxHeartbeats 1600000 in
theorem q5d (b g c:Nat) (w:World) (h:Raw w b g c) :
  Calls Tryz.prog 101 #[.pointer (some ⟨b,0,none⟩),.func (.func 102) #[.pointer (some ⟨b,0,none⟩)] #[]] w fun e w'=>e=.returned (.tuple #[])∧Built w b w':=by
 have hl:=run_call_load (P:=Tryz.prog) Tryz.func116 (by kernel_rfl) (by kernel_rfl) (by kernel_rfl) .u32 (by kernel_rfl) (w:=w) (a:=⟨b,0,none⟩) (x:=0) h.d0
 have hnot:∀ (x:Bool) (w:World),(Op.unary .not (.bool x)).run Tryz.prog w=.ok (.bool (!x)) w:=fun _ _=>rfl
 go_enter Tryz.func101,Tryz.ntmps101
 go_wp2_with (first|(go_at_call 108;refine (qrz b g c _ h).mono ?_;rintro e w' ⟨rfl,hB⟩)|(go_at_call 107;go_in))
 go_end0
 exact ⟨rfl,hB⟩
set_option maxHeartbeats 1600000 in
theorem qgs (b g c:Nat) (w:World) (h:Raw w b g c) (s:ByteArray) (hs:s.size<4294967281) :
  Calls Tryz.prog 89 #[.pointer (some ⟨b,0,none⟩),.string s] w fun e w'=>e=.returned (.string ⟨(esc s.data.toList).toArray⟩)∧∃ W,Built w b W∧Below W.heap.size W w':=by
 have hm : ∀ (N : Nat) (w : World), (method 352 173 (.pointer (some ⟨N, 0, none⟩)) "Replace").run Tryz.prog w = .ok (186, .pointer (some ⟨N, 0, none⟩)) w := fun _ _ => by kernel_rfl
 go_enter Tryz.func89,Tryz.ntmps89
 go_wp2_with (first|(go_at_call 101;refine (q5d b g c _ h).mono ?_;rintro e W ⟨rfl,hB⟩;obtain ⟨⟨N,q,r1,r2,c1,c2,hR,h3⟩,o1,o2,o3,o4,o5⟩:=id hB)|(go_at_call 186;refine (qgm _ N q r1 r2 c1 c2 _ hR s hs).mono ?_;rintro e w' ⟨rfl,hB2⟩))
 go_ret
 exact ⟨rfl,W,hB,hB2⟩
theorem heap3 (w:World) (A B C:Obj) :
  (((w.alloc A).alloc B).alloc C).drew.heap[w.heap.size+1]?=some B∧(((w.alloc A).alloc B).alloc C).drew.heap[w.heap.size+1+1]?=some C∧(((w.alloc A).alloc B).alloc C).drew.heap.size=w.heap.size+3:=by
 have hn:∀ (W:World) (X:Obj),(W.alloc X).heap[W.heap.size]?=some X:=fun W X=>by
  show (W.heap.push X)[W.heap.size]?=_
  simp
 have hs:∀ (W:World) (X:Obj),(W.alloc X).heap.size=W.heap.size+1:=fun W X=>by
  show (W.heap.push X).size=_
  simp
 have hd:∀ W:World,W.drew.heap=W.heap:=fun _=>rfl
 simp only [hd]
 refine ⟨?_,?_,?_⟩
 ·rw [Below.heap_alloc _ _ _ (by simp only [hs];omega),←hs w A,hn]
 ·rw [←hs w A,←hs (w.alloc A) B,hn]
 ·rw [hs,hs,hs]
set_option maxHeartbeats 1600000 in
theorem qcd (w:World):Calls Tryz.prog 88 #[.slice (some ⟨w.heap.size,0,none⟩) 4 4] (w.alloc (.cells #[.string ⟨#[92]⟩,.string ⟨#[92,92]⟩,.string ⟨#[34]⟩,.string ⟨#[92,34]⟩] 9)) fun e w'=>∃ b g c,e=.returned (.pointer (some ⟨b,0,none⟩))∧Raw w' b g c∧Below w.heap.size w w'∧w.heap.size≤b:=by
 go_enter Tryz.func88,Tryz.ntmps88
 go_wp2
 go_ret
 have hge:=grownCap_ge w 4 0 9
 obtain ⟨h1,h2,h3⟩:=heap3 w (.cells #[.string ⟨#[92]⟩,.string ⟨#[92,92]⟩,.string ⟨#[34]⟩,.string ⟨#[92,34]⟩] 9) (.cells (#[.string ⟨#[92]⟩,.string ⟨#[92,92]⟩,.string ⟨#[34]⟩,.string ⟨#[92,34]⟩]++Builtin.zeroCells #[.string ⟨#[]⟩] ((Question.appendCap 4 0 9).cut (w.tape w.drawn (Question.appendCap 4 0 9)) - 4)) 9) (.cells #[.int .u32 0,.int .i32 0,.int .u32 0,.nilIface,.slice (some ⟨w.heap.size+1,0,none⟩) 4 ((Question.appendCap 4 0 9).cut (w.tape w.drawn (Question.appendCap 4 0 9)))] 145)
 have hb:∀ (W:World) (X:Obj),Below w.heap.size w W→Below w.heap.size w (W.alloc X):=fun W X h=>h.alloc h.size X
 refine ⟨w.heap.size+1+1,w.heap.size+1,_,rfl,⟨hge,by rw [h3];omega,?_,?_,⟨.nilIface,?_⟩,?_,fun j=>?_,?_,?_,?_,?_,by omega⟩,(hb _ _ (hb _ _ (hb _ _ (Below.refl _ w)))).drew,by omega⟩
 ·simp only [World.cell?,h2];rfl
 ·simp only [World.cell?,h2];rfl
 ·simp only [World.cell?,h2];rfl
 ·simp only [World.cell?,h2];rfl
 ·simp only [World.frozen?,h2];simp
 ·simp only [World.cell?,h1];rw [Array.getElem?_append_left (by decide)];rfl
 ·simp only [World.cell?,h1];rw [Array.getElem?_append_left (by decide)];rfl
 ·simp only [World.cell?,h1];rw [Array.getElem?_append_left (by decide)];rfl
 ·simp only [World.cell?,h1];rw [Array.getElem?_append_left (by decide)];rfl
set_option maxHeartbeats 1600000 in
theorem qft (s:ByteArray) (hs:s.size<4294967281) (w:World) :
  Calls Tryz.prog 63 #[.string s] w fun e w'=>e=.returned (.string ⟨(quoL s.data.toList).toArray⟩)∧Below w.heap.size w w':=by
 have hel:=q68 s.data.toList
 have hzl:=zN_le s.data.toList
 have hsl:s.data.toList.length=s.size:=by rw [Array.length_toList];rfl
 have hle1:¬ 9223372036854775807<1+(esc s.data.toList).length:=by omega
 have hle2:¬ 9223372036854775807<1+(esc s.data.toList).length+1:=by omega
 go_enter Tryz.func63,Tryz.ntmps63
 go_wp2_with (first|(go_at_call 89;refine (qgs b g c _ hraw s hs).mono ?_;rintro e w' ⟨rfl,W,hW,hB⟩)|(go_at_call 88;refine (qcd w).mono ?_;rintro e w1 ⟨b,g,c,rfl,hraw,hb1,hbb⟩))
 go_ret
 refine ⟨?_,?_⟩
 ·show Ending.returned (.string (⟨#[34]⟩++⟨(esc s.data.toList).toArray⟩++⟨#[34]⟩))=_
  rw [show (⟨#[34]⟩++⟨(esc s.data.toList).toArray⟩++⟨#[34]⟩:ByteArray)=⟨(quoL s.data.toList).toArray⟩ from by apply ByteArray.ext;simp [quoL]]
 ·obtain ⟨_,o1,o2,o3,o4,o5⟩:=hW
  have hz1:=hb1.size
  refine ⟨hB.os.trans (o1.trans hb1.os),hB.tape.trans (o2.trans hb1.tape),hB.output.trans (o3.trans hb1.output),Nat.le_trans hz1 (Nat.le_trans o4 hB.size),fun k hk=>?_⟩
  rw [hB.block k (by omega),o5 k (by omega) (by omega),hb1.block k hk]
end Go.Proofs.YtognhcibcocbkaaGreatDoor
namespace Go.Proofs.YtognhcibcocbkaaGreatDoor
open Go.RowKit
theorem bel_of {w w':World} (h:Below w.heap.size w w'):Bel w w':=⟨h.os,h.tape,h.output,h.size,h.block⟩
theorem gw_pow {w : World} (h : GW w) : Lib.TabIs Tryz.prog w "internal/strconv.uint64pow10" .u64 Lib.pow10Tab := by
 unfold GW at h
 obtain ⟨_,⟨t,fz,h⟩,_⟩:=h
 have hn : Tryz.prog.globalNamed "internal/strconv.uint64pow10" = some 1 := by kernel_rfl
 unfold Lib.TabIs World.var?
 rw [hn]
 simp only [Option.bind_some,h]
theorem gw_syn {w:World} (h:GW w):∃ ev,w.cell? ⟨2,0,none⟩=some ev∧(ev=.nilIface∨∃ te pe,ev=.iface te pe):=by
 unfold GW at h
 exact h.2.2.1
theorem gw_ran {w:World} (h:GW w):∃ ev,w.cell? ⟨3,0,none⟩=some ev∧(ev=.nilIface∨∃ te pe,ev=.iface te pe):=by
 unfold GW at h
 exact h.2.2.2.1
theorem qg6 {w w':World} {Z:ZMap} (hG:GW w) (hb:Bel w w') (hZ:∀ b o u,Z b o=some u→w.cell? ⟨b,o,none⟩=some u):Rel (wb w) Z (fun _ _=>none) (fun _=>none) (fun i=>([]:List B)[i]?) (fun _=>false) w' :=
 ⟨wb_bel.2 hb,⟨hG,GB.no⟩,fun b o u h=>by rw [hb.cell _ (q4i (hZ _ _ _ h))];exact hZ _ _ _ h,(fun _ _ _ h=>by cases h),by simp,by simp,by simp,by simp,by simp⟩
theorem args1 {cargs:Array Value} {a:V} {Z Y:ZMap} (hs:cargs.size=1) (hr:∀ (i:Nat) u x,cargs[i]?=some u→[a][i]?=some x→Rep Z Y noM u x):∃ u,cargs=#[u]∧Rep Z Y noM u a:=by
 refine ⟨cargs[0]'(by omega),?_,hr 0 _ _ (Array.getElem?_eq_getElem _) rfl⟩
 apply Array.ext (by simpa using hs)
 intro i h1 h2
 have:i=0:=by omega
 subst this
 rfl
theorem args2 {cargs:Array Value} {a b:V} {Z Y:ZMap} (hs:cargs.size=2) (hr:∀ (i:Nat) u x,cargs[i]?=some u→[a,b][i]?=some x→Rep Z Y noM u x):∃ u v,cargs=#[u,v]∧Rep Z Y noM u a∧Rep Z Y noM v b:=by
 refine ⟨cargs[0]'(by omega),cargs[1]'(by omega),?_,hr 0 _ _ (Array.getElem?_eq_getElem _) rfl,hr 1 _ _ (Array.getElem?_eq_getElem _) rfl⟩
 apply Array.ext (by simpa using hs)
 intro i h1 h2
 match i,h1 with
 |0,_=>rfl
 |1,_=>rfl
 |i+2,h1=>omega
theorem q4a {f:FuncId} {args:List V} {x:V} (ho:okRes x=true) (h:∀ (w:World) (Z Y:ZMap) (cargs:Array Value),GW w→(∀ b o u,Z b o=some u→w.cell? ⟨b,o,none⟩=some u)→cargs.size=args.length→(∀ (i:Nat) u x,cargs[i]?=some u→args[i]?=some x→Rep Z Y noM u x) →
  Calls Tryz.prog f cargs w fun e w'=>∃ cv,e=.returned cv∧Bel w w'∧∀ (Z:ZMap) Y,Rep Z Y noM cv x):CallOk Tryz.prog f args (x,[]):=by
 refine ⟨ho,(fun b hb=>by cases hb),fun w Z Y cargs hG hZ hY hs hr=>(h w Z Y cargs hG hZ hs hr).mono fun e w'=>?_⟩
 rintro ⟨cv,rfl,hb,r⟩
 exact ⟨cv,Z,fun _=>none,rfl,ZUp.refl,qg6 hG hb hZ,r _ _,fun i h=>absurd rfl h⟩
theorem qa2 (n : Int) (h0 : -9223372036854775808 ≤ n) (h1 : n ≤ 9223372036854775807) (w : World) (ht : Lib.TabIs Tryz.prog w "internal/strconv.uint64pow10" .u64 Lib.pow10Tab) :
  Calls Tryz.prog 66 #[.int .i64 n] w fun e w'=>e=.returned (.string ⟨(Lib.itoa n).toArray⟩)∧Bel w w':=(Any.strconv_Itoa laysM171 n h0 h1 w ht).mono fun e w'=>by
 rintro ⟨rfl,k,os,rfl⟩
 refine ⟨rfl,rfl,rfl,rfl,?_,fun k hk=>?_⟩
 ·show w.heap.size≤(w.heap++os).size
  rw [Array.size_append];omega
 ·show (w.heap++os)[k]?=_
  rw [Array.getElem?_append_left hk]
theorem nv_app (a:List UInt8) (c:UInt8):nvL (a++[c])=10*nvL a+(c.toNat - 48):=by simp [nvL,List.foldl_append]
theorem nv_dec (n:Nat):nvL (Lib.decDigits n)=n:=by
 induction n using Nat.strongRecOn with
 |_ n ih =>
  rw [Lib.decDigits]
  split
  ·rename_i h
   simp only [nvL,List.foldl_cons,List.foldl_nil]
   rw [UInt8.toNat_ofNat']
   omega
  ·rename_i h
   rw [nv_app,ih (n / 10) (by omega),UInt8.toNat_ofNat']
   omega
theorem pu_app (c:UInt8):∀ (l:List UInt8) (acc u:Nat),Lib.parseUint10 acc l=.ok u→Lib.parseUint10 acc (l++[c])=Lib.parseUint10 u [c]
 |[],acc,u,h=>by
  simp only [Lib.parseUint10] at h
  injection h with h
  rw [h]
  rfl
 |d::l,acc,u,h=>by
  simp only [Lib.parseUint10,List.cons_append] at h ⊢
  split at h
  ·rename_i h1
   rw [if_pos h1]
   split at h;· cases h
   rename_i h2
   rw [if_neg h2]
   split at h;· cases h
   rename_i h3
   rw [if_neg h3]
   rw [pu_app c l _ u h]
   simp only [Lib.parseUint10]
  ·cases h
theorem pu_dec (n:Nat) (hn:n≤9223372036854775807):Lib.parseUint10 0 (Lib.decDigits n)=.ok n:=by
 induction n using Nat.strongRecOn with
 |_ n ih =>
  rw [Lib.decDigits]
  split
  ·rename_i h
   have e:(UInt8.ofNat (48+n)).toNat=48+n:=by rw [UInt8.toNat_ofNat'];omega
   simp only [Lib.parseUint10,e]
   rw [if_pos (by omega),if_neg (by omega),if_neg (by omega)]
   congr 1
   omega
  ·rename_i h
   have e:(UInt8.ofNat (48+n % 10)).toNat=48+n % 10:=by rw [UInt8.toNat_ofNat'];omega
   rw [pu_app _ _ _ _ (ih (n / 10) (by omega) (by omega))]
   simp only [Lib.parseUint10,e]
   rw [if_pos (by omega),if_neg (by omega),if_neg (by omega)]
   congr 1
   omega
theorem q50 (n:Nat):∃ c r,Lib.decDigits n=c::r∧48≤c.toNat:=by
 induction n using Nat.strongRecOn with
 |_ n ih =>
  rw [Lib.decDigits]
  split
  ·rename_i h
   refine ⟨_,_,rfl,?_⟩
   rw [UInt8.toNat_ofNat']
   omega
  ·rename_i h
   obtain ⟨c,r,h1,h2⟩:=ih (n / 10) (by omega)
   rw [h1]
   exact ⟨c,_,rfl,h2⟩
theorem q2k (n:Nat) (hn:n≤9223372036854775807):Lib.atoiAll (Lib.decDigits n)=.ok (n:Int):=by
 obtain ⟨c,r,h1,h2⟩:=q50 n
 have h3:=pu_dec n hn
 rw [h1] at h3 ⊢
 rw [Lib.atoiAll_plain c r (by omega) (by omega)]
 unfold Lib.parseMag
 rw [if_neg (by simp),h3]
 have e:¬ 9223372036854775808≤n:=by omega
 simp only [Lib.signless,if_neg e]
theorem ba_eq {s t:ByteArray}:s=t ↔ s.data.toList=t.data.toList:=⟨fun h=>by rw [h],fun h=>ByteArray.ext (Array.toList_inj.1 h)⟩
theorem qcw {s:ByteArray} {v:Int} (h:Lib.atoiAll s.data.toList=.ok v) (most:Int) (hm:most≤9223372036854775807) :
  (if s.data.toList=Lib.decDigits (nvL s.data.toList)∧(nvL s.data.toList:Int)≤most then ((nvL s.data.toList:Int),true) else (0,false)) =
  (if Lib.itoa v=s.data.toList∧0≤v∧v≤most then (v,true) else (0,false)):=by
 by_cases hc:Lib.itoa v=s.data.toList∧0≤v∧v≤most
 ·rw [if_pos hc]
  obtain ⟨h1,h2,h3⟩:=hc
  have e:Lib.itoa v=Lib.decDigits v.toNat:=by unfold Lib.itoa;rw [if_neg (by omega)]
  rw [e] at h1
  rw [←h1,nv_dec,if_pos ⟨rfl,by omega⟩]
  congr 1
  omega
 ·rw [if_neg hc,if_neg ?_]
  rintro ⟨h1,h2⟩
  rw [h1] at h
  rw [q2k _ (by omega)] at h
  injection h with h
  subst h
  refine hc ⟨?_,by omega,h2⟩
  unfold Lib.itoa
  rw [if_neg (by omega),Int.toNat_natCast]
  exact h1.symm
theorem qcv {s:ByteArray} (h:∀ v,Lib.atoiAll s.data.toList≠.ok v) (most:Int) (hm:most≤9223372036854775807) :
  (if s.data.toList=Lib.decDigits (nvL s.data.toList)∧(nvL s.data.toList:Int)≤most then ((nvL s.data.toList:Int),true) else (0,false))=(0,false):=by
 rw [if_neg]
 rintro ⟨h1,h2⟩
 have:=h (nvL s.data.toList)
 rw [h1] at this
 rw [nv_dec] at this
 exact this (q2k _ (by omega))
theorem q3b (w:World) (e:TypeId) (t:ByteArray):Bel w (Lib.bytesWorld w e t):=⟨rfl,rfl,rfl,by rw [Lib.bytesWorld_size];omega,fun k hk=>Lib.bytesWorld_at_old w e t k hk⟩
theorem gw_bel {w w':World} (h:GW w) (hb:Bel w w'):GW w':=BelA.gw (wb_bel.2 hb) ⟨h,GB.no⟩
set_option maxRecDepth 100000 in
set_option maxHeartbeats 1600000 in
theorem qd0 (s:ByteArray) (most:Int) (w:World) (hG:GW w) (r:Int×Bool) (hr:numP s most=some r) :
  Calls Tryz.prog 95 #[.string s,.int .i64 most] w fun e w'=>e=.returned (.tuple #[.int .i64 r.1,.bool r.2])∧Bel w w':=by
 unfold numP at hr
 split at hr
 case isFalse=>cases hr
 rename_i hsm
 obtain ⟨hs,hm⟩:=hsm
 injection hr with hr
 obtain ⟨es,hes,hes2⟩:=gw_syn hG
 obtain ⟨er,her,her2⟩:=gw_ran hG
 cases ha:Lib.atoiAll s.data.toList with
 |ok v =>
  rw [qcw ha most hm] at hr
  obtain ⟨hv0,hv1⟩:=Lib.atoiAll_bounds ha
  have hat:Calls Tryz.prog 104 #[.string s] w fun e w'=>e=.returned (.tuple #[.int .i64 v,.nilIface])∧Bel w w':=(Any.strconv_Atoi_ok laysC172 s (by omega) v ha w).mono fun e w' h=>⟨h.1,by
   rcases h.2 with h|⟨t,h⟩
   ·rw [h];exact Bel.refl _
   ·rw [h];exact q3b _ _ _⟩
  by_cases h1:Lib.itoa v=s.data.toList
  ·have hse:(⟨(Lib.itoa v).toArray⟩:ByteArray)=s:=by rw [ba_eq];simpa using h1
   by_cases h2:0≤v
   ·by_cases h3:v≤most
    ·rw [if_pos ⟨h1,h2,h3⟩] at hr
     subst hr
     go_enter Tryz.func95,Tryz.ntmps95
     go_wp2_with (first|(go_at_call 104;refine hat.mono ?_;rintro e w1 ⟨rfl,hb1⟩)|(go_at_call 66;refine (qa2 v hv0 hv1 _ (gw_pow (gw_bel hG hb1))).mono ?_;rintro e w2 ⟨rfl,hb2⟩;rw [hse]))
     go_ret2
     exact ⟨rfl,hb1.trans hb2⟩
    ·rw [if_neg (fun h=>h3 h.2.2)] at hr
     subst hr
     have h3':most<v:=by omega
     go_enter Tryz.func95,Tryz.ntmps95
     go_wp2_with (first|(go_at_call 104;refine hat.mono ?_;rintro e w1 ⟨rfl,hb1⟩)|(go_at_call 66;refine (qa2 v hv0 hv1 _ (gw_pow (gw_bel hG hb1))).mono ?_;rintro e w2 ⟨rfl,hb2⟩;rw [hse]))
     go_ret2
     exact ⟨rfl,hb1.trans hb2⟩
   ·rw [if_neg (fun h=>h2 h.2.1)] at hr
    subst hr
    have h2':v<0:=by omega
    go_enter Tryz.func95,Tryz.ntmps95
    go_wp2_with (first|(go_at_call 104;refine hat.mono ?_;rintro e w1 ⟨rfl,hb1⟩)|(go_at_call 66;refine (qa2 v hv0 hv1 _ (gw_pow (gw_bel hG hb1))).mono ?_;rintro e w2 ⟨rfl,hb2⟩;rw [hse]))
    go_ret2
    exact ⟨rfl,hb1.trans hb2⟩
  ·rw [if_neg (fun h=>h1 h.1)] at hr
   subst hr
   have h1':¬ Lib.itoa v=s.toList:=by rw [ByteArray.toList_eq];exact h1
   go_enter Tryz.func95,Tryz.ntmps95
   go_wp2_with (first|(go_at_call 104;refine hat.mono ?_;rintro e w1 ⟨rfl,hb1⟩)|(go_at_call 66;refine (qa2 v hv0 hv1 _ (gw_pow (gw_bel hG hb1))).mono ?_;rintro e w2 ⟨rfl,hb2⟩))
   go_ret2
   exact ⟨rfl,hb1.trans hb2⟩
 |range =>
  rw [qcv (by rw [ha];intro v h;cases h) most hm] at hr
  subst hr
  have hat:=Any.strconv_Atoi_range laysC172 s (by omega) ha er w her her2
  go_enter Tryz.func95,Tryz.ntmps95
  go_wp2_with (go_at_call 104;refine hat.mono ?_;rintro e w' ⟨N,rfl,hN,_,hB⟩)
  go_ret2
  exact ⟨rfl,bel_of hB⟩
 |_ =>
  rw [qcv (by rw [ha];intro v h;cases h) most hm] at hr
  subst hr
  have hat:=Any.strconv_Atoi_syntax laysC172 s (by omega) ha es w hes hes2
  go_enter Tryz.func95,Tryz.ntmps95
  go_wp2_with (go_at_call 104;refine hat.mono ?_;rintro e w' ⟨N,rfl,hN,_,hB⟩)
  go_ret2
  exact ⟨rfl,bel_of hB⟩
theorem qgf (l:List UInt8):∀ n:Nat,Lib.repeatL l n=(List.replicate n l).flatten
 |0=>rfl
 |n+1=>by rw [Lib.repeatL,qgf l n,List.replicate_succ,List.flatten_cons]
theorem qgl (s:ByteArray) (n:Int) (r:ByteArray) (hr:repP s n=some r) (w:World) :
  Calls Tryz.prog 61 #[.string s,.int .i64 n] w fun e w'=>e=.returned (.string r)∧Bel w w':=by
 unfold repP at hr
 split at hr
 case isFalse=>cases hr
 rename_i hc
 injection hr with hr
 subst hr
 obtain ⟨h0,h1,h2⟩:=hc
 obtain ⟨k,rfl⟩:∃ k:Nat,n=k:=⟨n.toNat,(Int.toNat_of_nonneg h0).symm⟩
 have hb:s.size*k≤140737488355328:=by
  have:=Nat.mul_le_mul h2 (show k≤1000000 by omega)
  omega
 refine (Any.strings_Repeat lays105 qa s k w (by omega) hb).mono fun e w' h=>⟨?_,bel_of h.2⟩
 rw [h.1,qgf,Int.toNat_natCast]
theorem qt0:∀ {es:List (List C)} {l:List ByteArray},strsOf es=some l→es=l.map fun s=>[C.str s]
 |[],l,h=>by injection h with h;subst h;rfl
 |e::es,l,h=>by
  unfold strsOf at h
  split at h
  ·rename_i e1;cases e1
  ·rename_i s l' e1
   injection e1 with e1 e2
   subst e1 e2
   cases hq:strsOf es with
   |none=>rw [hq] at h;cases h
   |some q =>
    rw [hq] at h
    injection h with h
    subst h
    rw [qt0 hq]
    rfl
  ·cases h
theorem qa7 (es:List (List C)) (l:List ByteArray) (sep r:ByteArray) (he:strsOf es=some l) (hr:joinP l sep=some r) (w:World) (Z:ZMap) (hZ:∀ b o u,Z b o=some u→w.cell? ⟨b,o,none⟩=some u) (v:Value) (hv:RepC Z v (.sl es)) :
  Calls Tryz.prog 86 #[v,.string sep] w fun e w'=>e=.returned (.string r)∧Bel w w':=by
 unfold joinP at hr
 split at hr
 case isFalse=>cases hr
 rename_i hc
 injection hr with hr
 subst hr
 have hes:=qt0 he
 subst hes
 cases hv with
 |sl A n c k b off U _ hl hc2 hm hk hA hz hrr hN =>
  rw [List.length_map] at hl
  cases l with
  |nil =>
   simp only [List.length_nil] at hl
   subst hl
   refine (Any.strings_Join_none lays156 qb A c sep w).mono fun e w' h=>⟨?_,by rw [h.2];exact Bel.refl _⟩
   rw [h.1]
   rfl
  |cons x l =>
   have hA':=hA (by simp)
   subst hA' hl
   have hk1:k=1:=(hk [C.str x] (by simp)).symm
   subst hk1
   have hcell:∀ (j:Nat) y,(x::l)[j]?=some y→w.cell? ⟨b,off+j,none⟩=some (.string y):=fun j y hy=>by
    have e1:((x::l).map fun s=>[C.str s])[j]?=some [C.str y]:=by rw [List.getElem?_map,hy];rfl
    have h1:=hz j _ 0 _ e1 rfl
    have h2:=hrr j _ 0 _ e1 rfl
    have h3:=hZ _ _ _ h1
    rw [Nat.mul_one,Nat.add_zero] at h3 h2
    cases hU:U j with
    |string q=>rw [hU] at h2 h3;cases h2;exact h3
    |_=>rw [hU] at h2;cases h2
   refine (Any.strings_Join lays156 qb b off c (x::l) sep w hcell (q4i (hcell 0 x rfl)) hc.2 hc2 hc.1).mono fun e w' h=>⟨h.1,bel_of h.2⟩
theorem X0c_ok:∀ f args r,X0c f args=some r→CallOk Tryz.prog f args r:=by
 intro f args r h
 unfold X0c at h
 cases hf:clones.contains f with
 |true=>simp [clones] at hf
 |false =>
 rw [hf,cond_false] at h
 cases h3:f==36 with
 |true =>
  rw [h3,cond_true] at h
  have hf':f=36:=by simpa using h3
  subst hf'
  split at h
  case h_2=>cases h
  rename_i s c
  injection h with h
  subst h
  refine q4a rfl fun w Z Y cargs hG hZ hs hr=>?_
  obtain ⟨u,v,rfl,r1,r2⟩:=args2 hs hr
  rw [qgh r1,qgg r2]
  exact (Any.strings_IndexByte lays137 s c w).mono fun e w' h=>⟨_,h.1,by rw [h.2];exact Bel.refl _,fun _ _=>.c (.int _ _)⟩
 |false =>
 rw [h3,cond_false] at h
 cases h6:f==95 with
 |true =>
  rw [h6,cond_true] at h
  have hf':f=95:=by simpa using h6
  subst hf'
  split at h
  case h_2=>cases h
  rename_i s n
  cases hp:numP s n with
  |none=>rw [hp] at h;cases h
  |some b =>
  rw [hp] at h
  injection h with h
  subst h
  refine q4a rfl fun w Z Y cargs hG hZ hs hr=>?_
  obtain ⟨u,v,rfl,r1,r2⟩:=args2 hs hr
  rw [qgh r1,qgg r2]
  refine (qd0 s n w hG b hp).mono fun e w' h=>⟨_,h.1,h.2,fun _ _=>.tup _ _ rfl ?_⟩
  intro i u x hu hx
  match i with
  |0=>simp at hu hx;subst hu;subst hx;exact .c (.int _ _)
  |1=>simp at hu hx;subst hu;subst hx;exact .c (.bool _)
  |i+2=>simp at hu
 |false =>
 rw [h6,cond_false] at h
 cases h7:f==63 with
 |true =>
  rw [h7,cond_true] at h
  have hf':f=63:=by simpa using h7
  subst hf'
  split at h
  case h_2=>cases h
  rename_i s
  cases hp:quoP s with
  |none=>rw [hp] at h;cases h
  |some b =>
  rw [hp] at h
  injection h with h
  subst h
  unfold quoP at hp
  split at hp
  case isFalse=>cases hp
  rename_i hsz
  injection hp with hp
  subst hp
  refine q4a rfl fun w Z Y cargs hG hZ hs hr=>?_
  obtain ⟨u,rfl,r1⟩:=args1 hs hr
  rw [qgh r1]
  exact (qft s hsz w).mono fun e w' h=>⟨_,h.1,bel_of h.2,fun _ _=>.c (.str _)⟩
 |false =>
 rw [h7,cond_false] at h
 cases h8:f==61 with
 |true =>
  rw [h8,cond_true] at h
  have hf':f=61:=by simpa using h8
  subst hf'
  split at h
  case h_2=>cases h
  rename_i s n
  cases hp:repP s n with
  |none=>rw [hp] at h;cases h
  |some b =>
  rw [hp] at h
  injection h with h
  subst h
  refine q4a rfl fun w Z Y cargs hG hZ hs hr=>?_
  obtain ⟨u,v,rfl,r1,r2⟩:=args2 hs hr
  rw [qgh r1,qgg r2]
  exact (qgl s n b hp w).mono fun e w' h=>⟨_,h.1,h.2,fun _ _=>.c (.str _)⟩
 |false =>
 rw [h8,cond_false] at h
 cases h9:f==86 with
 |true =>
  rw [h9,cond_true] at h
  have hf':f=86:=by simpa using h9
  subst hf'
  split at h
  case h_2=>cases h
  rename_i es s
  cases hl:strsOf es with
  |none=>rw [hl] at h;cases h
  |some l =>
  rw [hl] at h
  simp only [Option.bind_some] at h
  cases hp:joinP l s with
  |none=>rw [hp] at h;cases h
  |some b =>
  rw [hp] at h
  injection h with h
  subst h
  refine q4a rfl fun w Z Y cargs hG hZ hs hr=>?_
  obtain ⟨u,v,rfl,r1,r2⟩:=args2 hs hr
  rw [qgh r2]
  cases r1 with
  |c r1=>exact (qa7 es l s b hl hp w Z hZ u r1).mono fun e w' h=>⟨_,h.1,h.2,fun _ _=>.c (.str _)⟩
 |false =>
 rw [h9,cond_false] at h
 cases h5:f==66 with
 |true =>
  rw [h5,cond_true] at h
  have hf':f=66:=by simpa using h5
  subst hf'
  split at h
  case h_2=>cases h
  rename_i n
  cases hp:itoaP n with
  |none=>rw [hp] at h;cases h
  |some b =>
  rw [hp] at h
  injection h with h
  subst h
  unfold itoaP at hp
  split at hp
  case isFalse=>cases hp
  rename_i hsz
  injection hp with hp
  subst hp
  refine q4a rfl fun w Z Y cargs hG hZ hs hr=>?_
  obtain ⟨u,rfl,r1⟩:=args1 hs hr
  rw [qgg r1]
  exact (qa2 n hsz.1 hsz.2 w (gw_pow hG)).mono fun e w' h=>⟨_,h.1,h.2,fun _ _=>.c (.str _)⟩
 |false =>
 rw [h5,cond_false] at h
 cases h
theorem X0_ok:XOk Tryz.prog X0:=by
 refine ⟨X0c_ok,fun f R st vs s1 hf0 h=>?_⟩
 have hf:X0h f=some R:=hf0
 unfold X0h at hf
 cases hf
end Go.Proofs.YtognhcibcocbkaaGreatDoor
namespace Go.Proofs.YtognhcibcocbkaaGreatDoor
open Go.ChangeShapes Go.WideShapes Go.ChangeAt Go.ChangeMaps Go.RowKit Go.Deep
theorem moR_ok:Tryz.prog.follows .mixedOrders=true:=by kernel_rfl
theorem qav {f:FuncId} {args:List V} {cargs:Array Value} {W:World} (hC:Call Tryz.prog lv X0 f args=some (.c (.bool true),[])) (hG:GW W) (hsz:cargs.size=args.length)
  (hrep:∀ (i:Nat) u x,cargs[i]?=some u→args[i]?=some x→Rep (Zw W) (fun _ _=>none) noM u x):Calls Tryz.prog f cargs W fun e W'=>e=.returned (.bool true)∧Bel W W':=by
 have ok:=qf Tryz.prog lv X0 moR_ok X0_ok hC
 refine (ok.2.2 W (Zw W) (fun _ _=>none) cargs hG (fun _ _ _ h=>h) (fun _ _ _ h=>by cases h) hsz hrep).mono fun e W'=>?_
 rintro ⟨cv,Z',m',rfl,_,R,r,_⟩
 cases r with
 |c r =>
 cases r
 exact ⟨rfl,wb_bel.1 R.bel⟩
def RepA (W:World):List Value→List V→Prop
 |[],[]=>True
 |u::us,x::xs=>Rep (Zw W) (fun _ _=>none) noM u x∧RepA W us xs
 |_,_=>False
theorem RepA.get {W:World}:∀ {us:List Value} {xs:List V},RepA W us xs→us.length=xs.length∧∀ (i:Nat) u x,us[i]?=some u→xs[i]?=some x→Rep (Zw W) (fun _ _=>none) noM u x
 |[],[],_=>⟨rfl,fun i u x h _=>by simp at h⟩
 |u::us,x::xs,h=>by
  obtain ⟨h1,h2⟩:=RepA.get h.2
  refine ⟨by simp [h1],fun i u' x' hu hx=>?_⟩
  cases i with
  |zero=>simp at hu hx;subst hu hx;exact h.1
  |succ i=>simp at hu hx;exact h2 i u' x' hu hx
 |[],_::_,h=>h.elim
 |_::_,[],h=>h.elim
def laidL : List (String × DataW Unit) := [("math/bits.deBruijn32tab", Rows.laid_math_bits_deBruijn32tab), ("math/bits.deBruijn64tab", Rows.laid_math_bits_deBruijn64tab), ("internal/strconv.uint64pow10", Rows.laid_internal_strconv_uint64pow10), ("strconv.ErrRange", Rows.laid_strconv_ErrRange), ("strconv.ErrSyntax", Rows.laid_strconv_ErrSyntax)]
theorem qv1 {H:Type} {enc:TypeId×Value→H} {P:Program} {w:World} {base:Nat} {spare:Nat→Bool} {held:Bool} {fuel:Nat} {t:TypeId} {ms:Array (String×TypeId)} {cs:List Value} {x:DataW H×List MemPlace}
  (ht:P.underlying t=some (.interface ms)) (h:DataW.trod enc P w base spare held fuel t cs=some x):cs=[.nilIface]∨∃ te pe,cs=[.iface te pe]:=by
 cases fuel with
 |zero=>simp [DataW.trod] at h
 |succ fuel =>
  simp only [DataW.trod,ht] at h
  split at h <;> first|(exact .inl rfl)|(exact .inr ⟨_,_,rfl⟩)|simp_all
theorem q4h {P:Program} {w:World} {name:String} {g:Nat} {t:TypeId} {ms:Array (String×TypeId)} {D:DataW Unit} (hr:Lib.VarReads P w name D) (hg:P.globalNamed name=some g) (ht:(P.globals[g]?).map (·.type)=some t) (hu:P.underlying t=some (.interface ms)) :
  ∃ ev,w.cell? ⟨g,0,none⟩=some ev∧(ev=.nilIface∨∃ te pe,ev=.iface te pe):=by
 obtain ⟨g',t',cs,fuel,p,h1,h2,h3,h4⟩:=hr
 obtain rfl:=Option.some.inj (hg.symm.trans h1)
 obtain rfl:=Option.some.inj (ht.symm.trans h2)
 have hc:=World.var?_cell h1 h3 0
 rcases qv1 hu h4 with e|⟨te,pe,e⟩
 ·exact ⟨.nilIface,by rw [hc,←Array.getElem?_toList,e];rfl,.inl rfl⟩
 ·exact ⟨.iface te pe,by rw [hc,←Array.getElem?_toList,e];rfl,.inr ⟨_,_,rfl⟩⟩
theorem gw_row {W:World} (hs:W.ShapedOpen Tryz.prog) (hl:laidMetH Tryz.prog laidL W):GW W:=by
 have hl':laidMet Tryz.prog laidL W:=hl
 obtain ⟨g,t,cs,fuel,p,h1,h2,h3,h4⟩:=Lib.laidMet.reads hl' (.tail _ (.tail _ (.head _)))
 have hg : Tryz.prog.globalNamed "internal/strconv.uint64pow10" = some 1 := by kernel_rfl
 have ht:(Tryz.prog.globals[1]?).map (·.type)=some 176:=by kernel_rfl
 obtain rfl:=Option.some.inj (hg.symm.trans h1)
 obtain rfl:=Option.some.inj (ht.symm.trans h2)
 have hd:(Rows.laid_internal_strconv_uint64pow10:DataW Unit)=Lib.tabData .u64 Lib.pow10Tab:=by rfl
 rw [hd] at h4
 have hc:=Lib.cells_of_tab (n:=20) Tryz.underlying176 Tryz.underlying127 (by kernel_rfl) (by kernel_rfl) h4
 refine ⟨Go.Proofs.cell_of_shapedOpen_int (zero:=#[.int .i64 0]) (t:=3) hs (of_decide_eq_true (by kernel_rfl)) (by kernel_rfl) rfl (by kernel_rfl) (by kernel_rfl) Tryz.underlying3,?_,
  q4h (Lib.laidMet.reads hl' (.tail _ (.tail _ (.tail _ (.tail _ (.head _)))))) (by kernel_rfl) (by kernel_rfl) Tryz.underlying111,
  q4h (Lib.laidMet.reads hl' (.tail _ (.tail _ (.tail _ (.head _))))) (by kernel_rfl) (by kernel_rfl) Tryz.underlying111,trivial⟩
 simp only [World.var?,hg,Option.bind_some] at h3
 split at h3
 ·rename_i cs' t' fz hh
  injection h3 with h3
  subst h3
  refine ⟨t',fz,?_⟩
  rw [hh]
  congr 2
  apply Array.ext'
  rw [hc]
 ·cases h3
abbrev synS:ByteArray:=⟨#[105,110,118,97,108,105,100,32,115,121,110,116,97,120]⟩
abbrev ranS:ByteArray:=⟨#[118,97,108,117,101,32,111,117,116,32,111,102,32,114,97,110,103,101]⟩
noncomputable def lowB:Nat:=(World.holding Tryz.prog default ⟨#[],#[],[]⟩).heap.size
noncomputable def laidWorld (os:Os) (args:Array Value):World :=
 let w0:=World.holding Tryz.prog os ⟨#[.cells #[.string ranS] 221,.cells #[.string synS] 221],args,[]⟩
 let put (h:Array Obj) (g:Nat) (cs:Array Value):Array Obj:=h.modify g fun
  |.cells _ t frozen=>.cells cs t frozen
  |o=>o
 let ints (d:DataW Unit):Array Value:=match d with
  |.agg ds=>(ds.map fun x=>match x with|.lit (.int k z)=>Value.int k z|_=>.nilFunc).toArray
  |_=>#[]
 let h1:=put w0.heap 4 (ints Rows.laid_math_bits_deBruijn32tab)
 let h2:=put h1 5 (ints Rows.laid_math_bits_deBruijn64tab)
 let h3:=put h2 1 (ints Rows.laid_internal_strconv_uint64pow10)
 let h4:=put h3 3 #[.iface 219 (.pointer (some ⟨lowB,0,none⟩))]
 let h5:=put h4 2 #[.iface 219 (.pointer (some ⟨lowB+1,0,none⟩))]
 { w0 with heap:=h5 }
theorem qan (os:Os) (args:Array Value):laidMetH Tryz.prog laidL ((laidWorld os args).forCall (fun _ _=>0) ⟨#[],args,[]⟩).memory:=by
 have h:LaidIn Tryz.prog ((laidWorld os args).forCall (fun _ _=>0) ⟨#[],args,[]⟩).memory laidL [4,5,1,3,lowB,2,lowB+1] :=
  LaidIn.of_run [4,5,1,3,lowB,2,lowB+1] 8 (by kernel_rfl) (by kernel_rfl) (by kernel_rfl) (by kernel_rfl)
 exact h.met
end Go.Proofs.YtognhcibcocbkaaGreatDoor
