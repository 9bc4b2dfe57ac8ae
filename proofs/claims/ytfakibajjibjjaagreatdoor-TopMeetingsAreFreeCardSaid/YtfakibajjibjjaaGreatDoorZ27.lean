/- The rules are sound. -/
import Derived.Test.YtfakibajjibjjaaGreatDoorGB
import Derived.Test.YtfakibajjibjjaaGreatDoorRC
import Derived.Test.YtfakibajjibjjaaGreatDoorZ23
import Derived.Test.YtfakibajjibjjaaGreatDoorZ24
import Derived.Test.YtfakibajjibjjaaGreatDoorYE
import Derived.Test.YtfakibajjibjjaaGreatDoorZ26
import Derived.Shelf.Strconv.AtoiAll
import Derived.Lib.AtoiAllCases
import Derived.Test.YtfakibajjibjjaaGreatDoorZ21
namespace Go.Proofs.YtfakibajjibjjaaGreatDoor
open Go.RowKit
theorem bel_of {w w':World} (h:Below w.heap.size w w'):Bel w w':=⟨h.os,h.tape,h.output,h.size,h.block⟩
theorem gw_ml {w:World} (h:GW w):∃ m,w.cell? ⟨0,0,none⟩=some (.int .i64 m):=by unfold GW at h;exact h.1
theorem gw_bel {w w':World} (h:GW w) (hb:Bel w w'):GW w':=BelA.gw (q153.2 hb) ⟨h,GB.no⟩
theorem gw_pow {w : World} (h : GW w) : Lib.TabIs Tryz.prog w "internal/strconv.uint64pow10" .u64 Lib.pow10Tab := by
 unfold GW at h
 obtain ⟨_,⟨t,fz,h⟩,_⟩:=h
 have hn : Tryz.prog.globalNamed "internal/strconv.uint64pow10" = some 5 := by kernel_rfl
 unfold Lib.TabIs World.var?
 rw [hn]
 simp only [Option.bind_some,h]
theorem gw_syn {w:World} (h:GW w):∃ ev,w.cell? ⟨3,0,none⟩=some ev∧(ev=.nilIface∨∃ te pe,ev=.iface te pe):=by
 unfold GW at h
 exact h.2.2.1
theorem gw_ran {w:World} (h:GW w):∃ ev,w.cell? ⟨4,0,none⟩=some ev∧(ev=.nilIface∨∃ te pe,ev=.iface te pe):=by
 unfold GW at h
 exact h.2.2.2.1
theorem qul {w w':World} {Z:ZMap} (hG:GW w) (hb:Bel w w') (hZ:∀ b o u,Z b o=some u→w.cell? ⟨b,o,none⟩=some u):Rel (wb w) Z (fun _ _=>none) (fun _=>none) (fun i=>([]:List B)[i]?) (fun _=>false) w' :=
 ⟨q153.2 hb,⟨hG,GB.no⟩,fun b o u h=>by rw [hb.cell _ (q8u (hZ _ _ _ h))];exact hZ _ _ _ h,(fun _ _ _ h=>by cases h),by simp,by simp,by simp,by simp,by simp⟩
theorem args1 {cargs:Array Value} {a:V} {Z Y:ZMap} (hs:cargs.size=1) (hr:∀ (i:Nat) u x,cargs[i]?=some u→[a][i]?=some x→Rep Z Y noM u x):∃ u,cargs=#[u]∧Rep Z Y noM u a:=by
 refine ⟨cargs[0]'(by omega),?_,hr 0 _ _ (Array.getElem?_eq_getElem _) rfl⟩
 apply Array.ext (by simpa using hs)
 intro i h1 h2
 have:i=0:=by omega
 subst this
 rfl
theorem args2 {cargs:Array Value} {a b:V} {Z Y:ZMap} (hs:cargs.size=2) (hr:∀ (i:Nat) u x,cargs[i]?=some u→[a,b][i]?=some x→Rep Z Y noM u x):∃ u v,cargs=#[u,v]∧Rep Z Y noM u a∧Rep Z Y noM v b:=by
 refine ⟨cargs[0]'(by omega),cargs[1]'(by omega),?_,hr 0 _ _ (Array.getElem?_eq_getElem _) rfl,hr 1 _ _ (Array.getElem?_eq_getElem _) rfl⟩
 apply Array.ext (by simpa using hs)
 intro i h1 h2
 match i,h1 with
 |0,_=>rfl
 |1,_=>rfl
 |i+2,h1=>omega
theorem q83 {f:FuncId} {args:List V} {x:V} (ho:okRes x=true) (h:∀ (w:World) (Z Y:ZMap) (cargs:Array Value),GW w→(∀ b o u,Z b o=some u→w.cell? ⟨b,o,none⟩=some u)→cargs.size=args.length→(∀ (i:Nat) u x,cargs[i]?=some u→args[i]?=some x→Rep Z Y noM u x) →
  Calls Tryz.prog f cargs w fun e w'=>∃ cv,e=.returned cv∧Bel w w'∧∀ (Z:ZMap) Y,Rep Z Y noM cv x):CallOk Tryz.prog f args (x,[]):=by
 refine ⟨ho,(fun b hb=>by cases hb),fun w Z Y cargs hG hZ hY hs hr=>(h w Z Y cargs hG hZ hs hr).mono fun e w'=>?_⟩
 rintro ⟨cv,rfl,hb,r⟩
 exact ⟨cv,Z,fun _=>none,rfl,ZUp.refl,qul hG hb hZ,r _ _,fun i h=>absurd rfl h⟩
theorem qmx (n : Int) (h0 : -9223372036854775808 ≤ n) (h1 : n ≤ 9223372036854775807) (w : World) (ht : Lib.TabIs Tryz.prog w "internal/strconv.uint64pow10" .u64 Lib.pow10Tab) :
  Calls Tryz.prog 210 #[.int .i64 n] w fun e w'=>e=.returned (.string ⟨(Lib.itoa n).toArray⟩)∧Bel w w':=(Any.strconv_Itoa laysM171 n h0 h1 w ht).mono fun e w'=>by
 rintro ⟨rfl,k,os,rfl⟩
 refine ⟨rfl,rfl,rfl,rfl,?_,fun k hk=>?_⟩
 ·show w.heap.size≤(w.heap++os).size
  rw [Array.size_append];omega
 ·show (w.heap++os)[k]?=_
  rw [Array.getElem?_append_left hk]
theorem nv_app (a:List UInt8) (c:UInt8):nvL (a++[c])=10*nvL a+(c.toNat - 48):=by simp [nvL,List.foldl_append]
theorem nv_dec (n:Nat):nvL (Lib.decDigits n)=n:=by
 induction n using Nat.strongRecOn with
 |_ n ih =>
  rw [Lib.decDigits]
  split
  ·rename_i h
   simp only [nvL,List.foldl_cons,List.foldl_nil]
   rw [UInt8.toNat_ofNat']
   omega
  ·rename_i h
   rw [nv_app,ih (n / 10) (by omega),UInt8.toNat_ofNat']
   omega
theorem pu_app (c:UInt8):∀ (l:List UInt8) (acc u:Nat),Lib.parseUint10 acc l=.ok u→Lib.parseUint10 acc (l++[c])=Lib.parseUint10 u [c]
 |[],acc,u,h=>by
  simp only [Lib.parseUint10] at h
  injection h with h
  rw [h]
  rfl
 |d::l,acc,u,h=>by
  simp only [Lib.parseUint10,List.cons_append] at h ⊢
  split at h
  ·rename_i h1
   rw [if_pos h1]
   split at h;· cases h
   rename_i h2
   rw [if_neg h2]
   split at h;· cases h
   rename_i h3
   rw [if_neg h3]
   rw [pu_app c l _ u h]
   simp only [Lib.parseUint10]
  ·cases h
theorem pu_dec (n:Nat) (hn:n≤9223372036854775807):Lib.parseUint10 0 (Lib.decDigits n)=.ok n:=by
 induction n using Nat.strongRecOn with
 |_ n ih =>
  rw [Lib.decDigits]
  split
  ·rename_i h
   have e:(UInt8.ofNat (48+n)).toNat=48+n:=by rw [UInt8.toNat_ofNat'];omega
   simp only [Lib.parseUint10,e]
   rw [if_pos (by omega),if_neg (by omega),if_neg (by omega)]
   congr 1
   omega
  ·rename_i h
   have e:(UInt8.ofNat (48+n % 10)).toNat=48+n % 10:=by rw [UInt8.toNat_ofNat'];omega
   rw [pu_app _ _ _ _ (ih (n / 10) (by omega) (by omega))]
   simp only [Lib.parseUint10,e]
   rw [if_pos (by omega),if_neg (by omega),if_neg (by omega)]
   congr 1
   omega
theorem qc3 (n:Nat):∃ c r,Lib.decDigits n=c::r∧48≤c.toNat:=by
 induction n using Nat.strongRecOn with
 |_ n ih =>
  rw [Lib.decDigits]
  split
  ·rename_i h
   refine ⟨_,_,rfl,?_⟩
   rw [UInt8.toNat_ofNat']
   omega
  ·rename_i h
   obtain ⟨c,r,h1,h2⟩:=ih (n / 10) (by omega)
   rw [h1]
   exact ⟨c,_,rfl,h2⟩
theorem q4k (n:Nat) (hn:n≤9223372036854775807):Lib.atoiAll (Lib.decDigits n)=.ok (n:Int):=by
 obtain ⟨c,r,h1,h2⟩:=qc3 n
 have h3:=pu_dec n hn
 rw [h1] at h3 ⊢
 rw [Lib.atoiAll_plain c r (by omega) (by omega)]
 unfold Lib.parseMag
 rw [if_neg (by simp),h3]
 have e:¬ 9223372036854775808≤n:=by omega
 simp only [Lib.signless,if_neg e]
theorem ba_eq {s t:ByteArray}:s=t ↔ s.data.toList=t.data.toList:=⟨fun h=>by rw [h],fun h=>ByteArray.ext (Array.toList_inj.1 h)⟩
theorem qt3 {s:ByteArray} {v:Int} (h:Lib.atoiAll s.data.toList=.ok v) (most:Int) (hm:most≤9223372036854775807) :
  (if s.data.toList=Lib.decDigits (nvL s.data.toList)∧(nvL s.data.toList:Int)≤most then ((nvL s.data.toList:Int),true) else (0,false)) =
  (if Lib.itoa v=s.data.toList∧0≤v∧v≤most then (v,true) else (0,false)):=by
 by_cases hc:Lib.itoa v=s.data.toList∧0≤v∧v≤most
 ·rw [if_pos hc]
  obtain ⟨h1,h2,h3⟩:=hc
  have e:Lib.itoa v=Lib.decDigits v.toNat:=by unfold Lib.itoa;rw [if_neg (by omega)]
  rw [e] at h1
  rw [←h1,nv_dec,if_pos ⟨rfl,by omega⟩]
  congr 1
  omega
 ·rw [if_neg hc,if_neg ?_]
  rintro ⟨h1,h2⟩
  rw [h1] at h
  rw [q4k _ (by omega)] at h
  injection h with h
  subst h
  refine hc ⟨?_,by omega,h2⟩
  unfold Lib.itoa
  rw [if_neg (by omega),Int.toNat_natCast]
  exact h1.symm
theorem qt2 {s:ByteArray} (h:∀ v,Lib.atoiAll s.data.toList≠.ok v) (most:Int) (hm:most≤9223372036854775807) :
  (if s.data.toList=Lib.decDigits (nvL s.data.toList)∧(nvL s.data.toList:Int)≤most then ((nvL s.data.toList:Int),true) else (0,false))=(0,false):=by
 rw [if_neg]
 rintro ⟨h1,h2⟩
 have:=h (nvL s.data.toList)
 rw [h1] at this
 rw [nv_dec] at this
 exact this (q4k _ (by omega))
theorem q6i (w:World) (e:TypeId) (t:ByteArray):Bel w (Lib.bytesWorld w e t):=⟨rfl,rfl,rfl,by rw [Lib.bytesWorld_size];omega,fun k hk=>Lib.bytesWorld_at_old w e t k hk⟩
set_option maxRecDepth 100000 in
set_option maxHeartbeats 1600000 in
theorem qt7 (s:ByteArray) (most:Int) (w:World) (hG:GW w) (r:Int×Bool) (hr:numP s most=some r) :
  Calls Tryz.prog 202 #[.string s,.int .i64 most] w fun e w'=>e=.returned (.tuple #[.int .i64 r.1,.bool r.2])∧Bel w w':=by
 unfold numP at hr
 split at hr
 case isFalse=>cases hr
 rename_i hsm
 obtain ⟨hs,hm⟩:=hsm
 injection hr with hr
 obtain ⟨es,hes,hes2⟩:=gw_syn hG
 obtain ⟨er,her,her2⟩:=gw_ran hG
 cases ha:Lib.atoiAll s.data.toList with
 |ok v =>
  rw [qt3 ha most hm] at hr
  obtain ⟨hv0,hv1⟩:=Lib.atoiAll_bounds ha
  have hat:Calls Tryz.prog 229 #[.string s] w fun e w'=>e=.returned (.tuple #[.int .i64 v,.nilIface])∧Bel w w':=(Any.strconv_Atoi_ok laysC172 s (by omega) v ha w).mono fun e w' h=>⟨h.1,by
   rcases h.2 with h|⟨t,h⟩
   ·rw [h];exact Bel.refl _
   ·rw [h];exact q6i _ _ _⟩
  by_cases h1:Lib.itoa v=s.data.toList
  ·have hse:(⟨(Lib.itoa v).toArray⟩:ByteArray)=s:=by rw [ba_eq];simpa using h1
   by_cases h2:0≤v
   ·by_cases h3:v≤most
    ·rw [if_pos ⟨h1,h2,h3⟩] at hr
     subst hr
     go_enter Tryz.func202,Tryz.ntmps202
     go_wp2_with (first|(go_at_call 229;refine hat.mono ?_;rintro e w1 ⟨rfl,hb1⟩)|(go_at_call 210;refine (qmx v hv0 hv1 _ (gw_pow (gw_bel hG hb1))).mono ?_;rintro e w2 ⟨rfl,hb2⟩;rw [hse]))
     go_ret2
     exact ⟨rfl,hb1.trans hb2⟩
    ·rw [if_neg (fun h=>h3 h.2.2)] at hr
     subst hr
     have h3':most<v:=by omega
     go_enter Tryz.func202,Tryz.ntmps202
     go_wp2_with (first|(go_at_call 229;refine hat.mono ?_;rintro e w1 ⟨rfl,hb1⟩)|(go_at_call 210;refine (qmx v hv0 hv1 _ (gw_pow (gw_bel hG hb1))).mono ?_;rintro e w2 ⟨rfl,hb2⟩;rw [hse]))
     go_ret2
     exact ⟨rfl,hb1.trans hb2⟩
   ·rw [if_neg (fun h=>h2 h.2.1)] at hr
    subst hr
    have h2':v<0:=by omega
    go_enter Tryz.func202,Tryz.ntmps202
    go_wp2_with (first|(go_at_call 229;refine hat.mono ?_;rintro e w1 ⟨rfl,hb1⟩)|(go_at_call 210;refine (qmx v hv0 hv1 _ (gw_pow (gw_bel hG hb1))).mono ?_;rintro e w2 ⟨rfl,hb2⟩;rw [hse]))
    go_ret2
    exact ⟨rfl,hb1.trans hb2⟩
  ·rw [if_neg (fun h=>h1 h.1)] at hr
   subst hr
   have h1':¬ Lib.itoa v=s.toList:=by rw [ByteArray.toList_eq];exact h1
   go_enter Tryz.func202,Tryz.ntmps202
   go_wp2_with (first|(go_at_call 229;refine hat.mono ?_;rintro e w1 ⟨rfl,hb1⟩)|(go_at_call 210;refine (qmx v hv0 hv1 _ (gw_pow (gw_bel hG hb1))).mono ?_;rintro e w2 ⟨rfl,hb2⟩))
   go_ret2
   exact ⟨rfl,hb1.trans hb2⟩
 |range =>
  rw [qt2 (by rw [ha];intro v h;cases h) most hm] at hr
  subst hr
  have hat:=Any.strconv_Atoi_range laysC172 s (by omega) ha er w her her2
  go_enter Tryz.func202,Tryz.ntmps202
  go_wp2_with (go_at_call 229;refine hat.mono ?_;rintro e w' ⟨N,rfl,hN,_,hB⟩)
  go_ret2
  exact ⟨rfl,bel_of hB⟩
 |_ =>
  rw [qt2 (by rw [ha];intro v h;cases h) most hm] at hr
  subst hr
  have hat:=Any.strconv_Atoi_syntax laysC172 s (by omega) ha es w hes hes2
  go_enter Tryz.func202,Tryz.ntmps202
  go_wp2_with (go_at_call 229;refine hat.mono ?_;rintro e w' ⟨N,rfl,hN,_,hB⟩)
  go_ret2
  exact ⟨rfl,bel_of hB⟩
theorem quw (l:List UInt8):∀ n:Nat,Lib.repeatL l n=(List.replicate n l).flatten
 |0=>rfl
 |n+1=>by rw [Lib.repeatL,quw l n,List.replicate_succ,List.flatten_cons]
theorem qv4 (s:ByteArray) (n:Int) (r:ByteArray) (hr:repP s n=some r) (w:World) :
  Calls Tryz.prog 149 #[.string s,.int .i64 n] w fun e w'=>e=.returned (.string r)∧Bel w w':=by
 unfold repP at hr
 split at hr
 case isFalse=>cases hr
 rename_i hc
 injection hr with hr
 subst hr
 obtain ⟨h0,h1,h2⟩:=hc
 obtain ⟨k,rfl⟩:∃ k:Nat,n=k:=⟨n.toNat,(Int.toNat_of_nonneg h0).symm⟩
 have hb:s.size*k≤140737488355328:=by
  have:=Nat.mul_le_mul h2 (show k≤1000000 by omega)
  omega
 refine (Any.strings_Repeat lays105 qb s k w (by omega) hb).mono fun e w' h=>⟨?_,bel_of h.2⟩
 rw [h.1,quw,Int.toNat_natCast]
theorem q10y:∀ {es:List (List C)} {l:List ByteArray},strsOf es=some l→es=l.map fun s=>[C.str s]
 |[],l,h=>by injection h with h;subst h;rfl
 |e::es,l,h=>by
  unfold strsOf at h
  split at h
  ·rename_i e1;cases e1
  ·rename_i s l' e1
   injection e1 with e1 e2
   subst e1 e2
   cases hq:strsOf es with
   |none=>rw [hq] at h;cases h
   |some q =>
    rw [hq] at h
    injection h with h
    subst h
    rw [q10y hq]
    rfl
  ·cases h
theorem qn5 (es:List (List C)) (l:List ByteArray) (sep r:ByteArray) (he:strsOf es=some l) (hr:joinP l sep=some r) (w:World) (Z:ZMap) (hZ:∀ b o u,Z b o=some u→w.cell? ⟨b,o,none⟩=some u) (v:Value) (hv:RepC Z v (.sl es)) :
  Calls Tryz.prog 68 #[v,.string sep] w fun e w'=>e=.returned (.string r)∧Bel w w':=by
 unfold joinP at hr
 split at hr
 case isFalse=>cases hr
 rename_i hc
 injection hr with hr
 subst hr
 have hes:=q10y he
 subst hes
 cases hv with
 |sl A n c k b off U _ hl hc2 hm hk hA hz hrr hN =>
  rw [List.length_map] at hl
  cases l with
  |nil =>
   simp only [List.length_nil] at hl
   subst hl
   refine (Any.strings_Join_none lays156 qc A c sep w).mono fun e w' h=>⟨?_,by rw [h.2];exact Bel.refl _⟩
   rw [h.1]
   rfl
  |cons x l =>
   have hA':=hA (by simp)
   subst hA' hl
   have hk1:k=1:=(hk [C.str x] (by simp)).symm
   subst hk1
   have hcell:∀ (j:Nat) y,(x::l)[j]?=some y→w.cell? ⟨b,off+j,none⟩=some (.string y):=fun j y hy=>by
    have e1:((x::l).map fun s=>[C.str s])[j]?=some [C.str y]:=by rw [List.getElem?_map,hy];rfl
    have h1:=hz j _ 0 _ e1 rfl
    have h2:=hrr j _ 0 _ e1 rfl
    have h3:=hZ _ _ _ h1
    rw [Nat.mul_one,Nat.add_zero] at h3 h2
    cases hU:U j with
    |string q=>rw [hU] at h2 h3;cases h2;exact h3
    |_=>rw [hU] at h2;cases h2
   refine (Any.strings_Join lays156 qc b off c (x::l) sep w hcell (q8u (hcell 0 x rfl)) hc.2 hc2 hc.1).mono fun e w' h=>⟨h.1,bel_of h.2⟩
theorem q8g (l:List UInt8):decide (0≤Lib.indexAny l crlf0)=l.any fun b=>crlf0.contains b:=by
 induction l with
 |nil=>rfl
 |cons b l ih =>
  rw [List.any_cons,Lib.indexAny,←ih]
  cases crlf0.contains b with
  |true=>rfl
  |false =>
   have:=Lib.indexAny_ge crlf0 l
   by_cases h:Lib.indexAny l crlf0=-1
   ·rw [h];rfl
   ·have h2:(Lib.indexAny l crlf0==-1)=false:=by simpa using h
    simp only [h2,Bool.false_eq_true,if_false,Bool.false_or]
    rw [Bool.eq_iff_iff]
    simp
    omega
set_option maxRecDepth 100000 in
theorem q8e (s:ByteArray) (w:World) (hs:s.size<4294967281):Calls Tryz.prog 221 #[.string s,.string ⟨#[13,10,0]⟩] w fun e w'=>e=.returned (.bool (s.data.toList.any fun b=>crlf0.contains b))∧Below w.heap.size w w':=by
 have hc:Calls Tryz.prog 240 #[.string s,.string ⟨#[13,10,0]⟩] w fun e w'=>e=.returned (.int .i64 (Lib.indexAny s.data.toList crlf0))∧Below w.heap.size w w':=by
  by_cases h8:s.size≤8
  ·exact qkb s w h8
  ·exact qka s ⟨#[13,10,0]⟩ w (by decide) (by omega) hs (by decide) (fun j b hb=>by
    have:b∈([13,10,0]:List UInt8):=List.mem_of_getElem? hb
    simp at this
    rcases this with rfl|rfl|rfl <;> decide)
 go_enter Tryz.func221,Tryz.ntmps221
 go_wp2_with (go_at_call 240;refine hc.mono ?_;rintro e w' ⟨rfl,hb⟩)
 go_ret
 refine ⟨?_,hb⟩
 rw [←q8g s.data.toList]
 rfl
theorem qas (s sub:ByteArray) (m:Int) (w:World) (hs:s.size<4294967281) (hm:w.cell? ⟨0,0,none⟩=some (.int .i64 m)) :
  Calls Tryz.prog 232 #[.string s,.string sub] w fun e w'=>e=.returned (.bool (Lib.contains s.data.toList sub.data.toList))∧w'=w:=Any.strings_Contains lays144 s sub m w hs hm
set_option maxHeartbeats 400000 in
set_option maxRecDepth 4000 in
theorem q9q (w:World):Calls Tryz.prog 72 #[.slice none 0 0] w fun e w'=>e=.returned (.slice none 0 0)∧w=w':=by
 have hz:∀ w:World,(binOp .eql 50 (.slice none 0 0) (.slice none 0 0)).run Tryz.prog w=.ok (.bool true) w:=fun w=>Lib.run_eql_slice_nil w _ _ _ _ _ _ _ Tryz.underlying50
 go_enter Tryz.func72,Tryz.ntmps72
 go_wp2
 go_ret
 exact ⟨rfl,rfl⟩
set_option maxHeartbeats 400000 in
set_option maxRecDepth 4000 in
theorem q9y (w:World):Calls Tryz.prog 51 #[.slice none 0 0] w fun e w'=>e=.returned (.slice none 0 0)∧w=w':=by
 have hz:∀ w:World,(binOp .eql 31 (.slice none 0 0) (.slice none 0 0)).run Tryz.prog w=.ok (.bool true) w:=fun w=>Lib.run_eql_slice_nil w _ _ _ _ _ _ _ Tryz.underlying31
 go_enter Tryz.func51,Tryz.ntmps51
 go_wp2
 go_ret
 exact ⟨rfl,rfl⟩
set_option maxHeartbeats 400000 in
set_option maxRecDepth 4000 in
theorem q9p (w:World):Calls Tryz.prog 29 #[.slice none 0 0] w fun e w'=>e=.returned (.slice none 0 0)∧w=w':=by
 have hz:∀ w:World,(binOp .eql 22 (.slice none 0 0) (.slice none 0 0)).run Tryz.prog w=.ok (.bool true) w:=fun w=>Lib.run_eql_slice_nil w _ _ _ _ _ _ _ Tryz.underlying22
 go_enter Tryz.func29,Tryz.ntmps29
 go_wp2
 go_ret
 exact ⟨rfl,rfl⟩
theorem qa0 {f:FuncId} (hnil:∀ w,Calls Tryz.prog f #[.slice none 0 0] w fun e w'=>e=.returned (.slice none 0 0)∧w=w') (c2:CallOk Tryz.prog f [.c .ne] (.row 0 0,[.row []])):CallOk Tryz.prog f [.c (.sl [])] (.row 0 0,[.row []]):=by
 refine ⟨c2.1,c2.2.1,fun w Z Y cargs hG hZ hY hs hr=>?_⟩
 have hs1:cargs.size=1:=hs
 obtain ⟨u,hu⟩:∃ u,cargs[0]?=some u:=⟨cargs[0]'(by omega),Array.getElem?_eq_getElem _⟩
 have r0:=hr 0 u _ hu rfl
 cases r0 with
 |c r0 =>
 have one:∀ y:C,RepC Z u y→∀ (i:Nat) u' x,cargs[i]?=some u'→[V.c y][i]?=some x→Rep Z Y noM u' x:=by
  intro y hy i u' x h1 h2
  cases i with
  |zero =>
   rw [hu] at h1
   injection h1 with h1;subst h1
   simp at h2;subst h2
   exact .c hy
  |succ i=>simp at h2
 cases r0 with
 |sl A n c k b off U es hl hc hm hk hA hz hr' hN =>
  have hl':n=0:=by simpa using hl.symm
  subst hl'
  cases A with
  |none =>
   have:=hN rfl
   subst this
   obtain rfl:cargs=#[.slice none 0 0]:=by
    apply Array.ext (by simpa using hs1)
    intro i h1 h2
    have:i=0:=by simp at h2;omega
    subst this
    rw [Array.getElem?_eq_getElem h1] at hu
    injection hu
   refine (hnil w).mono fun e w'=>?_
   rintro ⟨rfl,rfl⟩
   refine ⟨_,Z,fun i=>if i=0 then some (.slice none 0 0) else none,rfl,ZUp.refl,⟨q153.2 (Bel.refl _),⟨hG,GB.no⟩,hZ,(fun _ _ _ h=>by cases h),?_,?_,?_,?_,?_⟩,.row 0 0 none 0 (by simp) (by simp),?_⟩
   ·intro id cs h
    cases id <;> simp at h
   ·intro id es h
    cases id with
    |zero=>simp at h;subst h;exact .inl ⟨by simp,rfl⟩
    |succ id=>simp at h
   ·intro id es q v h
    cases id <;> simp at h
   ·intro id l h
    cases id <;> simp at h
   ·intro id id' g _ _ h
    unfold blkOf at h
    by_cases h0:id=0 <;> simp [h0] at h
   ·intro i h
    by_cases h0:i=0
    ·subst h0;simp
    ·simp [h0] at h
  |some a=>exact c2.2.2 w Z Y cargs hG hZ hY hs (one .ne (.ne a c hm))
theorem qsi:Tryz.prog.follows .mixedOrders=true:=by kernel_rfl
theorem qa2 {f:FuncId} (hf:clones.contains f=true):CallOk Tryz.prog f [.c (.sl [])] (.row 0 0,[.row []]):=by
 have h:f∈clones:=by simpa using hf
 clear hf
 unfold clones at h
 repeat
  rcases h with _|⟨_,h⟩
  ·first
    |fail
    |exact qa0 q9q (qj Tryz.prog lv ⟨fun _ _=>none,fun _=>none⟩ qsi ⟨fun _ _ _ h=>by (cases h),fun _ _ _ _ _ h=>by (cases h)⟩ (qh (n:=30) (by kernel_rfl)))
    |exact qa0 q9y (qj Tryz.prog lv ⟨fun _ _=>none,fun _=>none⟩ qsi ⟨fun _ _ _ h=>by (cases h),fun _ _ _ _ _ h=>by (cases h)⟩ (qh (n:=30) (by kernel_rfl)))
    |exact qa0 q9p (qj Tryz.prog lv ⟨fun _ _=>none,fun _=>none⟩ qsi ⟨fun _ _ _ h=>by (cases h),fun _ _ _ _ _ h=>by (cases h)⟩ (qh (n:=30) (by kernel_rfl)))
 cases h
theorem X0c_ok:∀ f args r,X0c f args=some r→CallOk Tryz.prog f args r:=by
 intro f args r h
 unfold X0c at h
 cases hf:clones.contains f with
 |true =>
  rw [hf,cond_true] at h
  split at h
  case h_2=>cases h
  injection h with h
  subst h
  exact qa2 hf
 |false =>
 rw [hf,cond_false] at h
 cases h1:f==232 with
 |true =>
  rw [h1,cond_true] at h
  have hf':f=232:=by simpa using h1
  subst hf'
  split at h
  case h_2=>cases h
  rename_i s t
  cases hp:contP s t with
  |none=>rw [hp] at h;cases h
  |some b =>
  rw [hp] at h
  injection h with h
  subst h
  unfold contP at hp
  split at hp
  case isFalse=>cases hp
  rename_i hsz
  injection hp with hp
  subst hp
  refine q83 rfl fun w Z Y cargs hG hZ hs hr=>?_
  obtain ⟨u,v,rfl,r1,r2⟩:=args2 hs hr
  rw [quz r1,quz r2]
  obtain ⟨m,hm⟩:=gw_ml hG
  exact (qas s t m w hsz hm).mono fun e w' h=>⟨_,h.1,by rw [h.2];exact Bel.refl _,fun _ _=>.c (.bool _)⟩
 |false =>
 rw [h1,cond_false] at h
 cases h2:f==170 with
 |true =>
  rw [h2,cond_true] at h
  have hf':f=170:=by simpa using h2
  subst hf'
  split at h
  case h_2=>cases h
  rename_i s t
  cases hp:cutP s t with
  |none=>rw [hp] at h;cases h
  |some b =>
  rw [hp] at h
  injection h with h
  subst h
  unfold cutP at hp
  split at hp
  case isFalse=>cases hp
  rename_i hsz
  injection hp with hp
  subst hp
  refine q83 rfl fun w Z Y cargs hG hZ hs hr=>?_
  obtain ⟨u,v,rfl,r1,r2⟩:=args2 hs hr
  rw [quz r1,quz r2]
  obtain ⟨m,hm⟩:=gw_ml hG
  refine (qb0 s t m w hsz hm).mono fun e w' h=>?_
  obtain ⟨he,n,rfl⟩:=h
  refine ⟨_,he,(Bel.refl w).drewN n,fun _ _=>.tup _ _ rfl ?_⟩
  intro i u x hu hx
  match i with
  |0=>simp at hu hx;subst hu;subst hx;exact .c (.str _)
  |1=>simp at hu hx;subst hu;subst hx;exact .c (.str _)
  |2=>simp at hu hx;subst hu;subst hx;exact .c (.bool _)
  |i+3=>simp at hu
 |false =>
 rw [h2,cond_false] at h
 cases h3:f==73 with
 |true =>
  rw [h3,cond_true] at h
  have hf':f=73:=by simpa using h3
  subst hf'
  split at h
  case h_2=>cases h
  rename_i s c
  injection h with h
  subst h
  refine q83 rfl fun w Z Y cargs hG hZ hs hr=>?_
  obtain ⟨u,v,rfl,r1,r2⟩:=args2 hs hr
  rw [quz r1,qux r2]
  exact (Any.strings_IndexByte lays137 s c w).mono fun e w' h=>⟨_,h.1,by rw [h.2];exact Bel.refl _,fun _ _=>.c (.int _ _)⟩
 |false =>
 rw [h3,cond_false] at h
 cases h4:f==221 with
 |true =>
  rw [h4,cond_true] at h
  have hf':f=221:=by simpa using h4
  subst hf'
  split at h
  case h_2=>cases h
  rename_i s t
  cases hp:canyP s t with
  |none=>rw [hp] at h;cases h
  |some b =>
  rw [hp] at h
  injection h with h
  subst h
  unfold canyP at hp
  split at hp
  case isFalse=>cases hp
  rename_i hsz
  injection hp with hp
  subst hp
  have ht:t=⟨#[13,10,0]⟩:=by
   apply ByteArray.ext
   exact Array.toList_inj.1 hsz.2
  subst ht
  refine q83 rfl fun w Z Y cargs hG hZ hs hr=>?_
  obtain ⟨u,v,rfl,r1,r2⟩:=args2 hs hr
  rw [quz r1,quz r2]
  exact (q8e s w hsz.1).mono fun e w' h=>⟨_,h.1,bel_of h.2,fun _ _=>.c (.bool _)⟩
 |false =>
 rw [h4,cond_false] at h
 cases h6:f==202 with
 |true =>
  rw [h6,cond_true] at h
  have hf':f=202:=by simpa using h6
  subst hf'
  split at h
  case h_2=>cases h
  rename_i s n
  cases hp:numP s n with
  |none=>rw [hp] at h;cases h
  |some b =>
  rw [hp] at h
  injection h with h
  subst h
  refine q83 rfl fun w Z Y cargs hG hZ hs hr=>?_
  obtain ⟨u,v,rfl,r1,r2⟩:=args2 hs hr
  rw [quz r1,qux r2]
  refine (qt7 s n w hG b hp).mono fun e w' h=>⟨_,h.1,h.2,fun _ _=>.tup _ _ rfl ?_⟩
  intro i u x hu hx
  match i with
  |0=>simp at hu hx;subst hu;subst hx;exact .c (.int _ _)
  |1=>simp at hu hx;subst hu;subst hx;exact .c (.bool _)
  |i+2=>simp at hu
 |false =>
 rw [h6,cond_false] at h
 cases h8:f==149 with
 |true =>
  rw [h8,cond_true] at h
  have hf':f=149:=by simpa using h8
  subst hf'
  split at h
  case h_2=>cases h
  rename_i s n
  cases hp:repP s n with
  |none=>rw [hp] at h;cases h
  |some b =>
  rw [hp] at h
  injection h with h
  subst h
  refine q83 rfl fun w Z Y cargs hG hZ hs hr=>?_
  obtain ⟨u,v,rfl,r1,r2⟩:=args2 hs hr
  rw [quz r1,qux r2]
  exact (qv4 s n b hp w).mono fun e w' h=>⟨_,h.1,h.2,fun _ _=>.c (.str _)⟩
 |false =>
 rw [h8,cond_false] at h
 cases h9:f==68 with
 |true =>
  rw [h9,cond_true] at h
  have hf':f=68:=by simpa using h9
  subst hf'
  split at h
  case h_2=>cases h
  rename_i es s
  cases hl:strsOf es with
  |none=>rw [hl] at h;cases h
  |some l =>
  rw [hl] at h
  simp only [Option.bind_some] at h
  cases hp:joinP l s with
  |none=>rw [hp] at h;cases h
  |some b =>
  rw [hp] at h
  injection h with h
  subst h
  refine q83 rfl fun w Z Y cargs hG hZ hs hr=>?_
  obtain ⟨u,v,rfl,r1,r2⟩:=args2 hs hr
  rw [quz r2]
  cases r1 with
  |c r1=>exact (qn5 es l s b hl hp w Z hZ u r1).mono fun e w' h=>⟨_,h.1,h.2,fun _ _=>.c (.str _)⟩
 |false =>
 rw [h9,cond_false] at h
 cases hk:f==103 with
 |true =>
  rw [hk,cond_true] at h
  have hf':f=103:=by simpa using hk
  subst hf'
  split at h
  case h_2=>cases h
  rename_i es
  cases hp:bodP es with
  |none=>rw [hp] at h;cases h
  |some b =>
  rw [hp] at h
  injection h with h
  subst h
  exact q74 hp
 |false =>
 rw [hk,cond_false] at h
 clear hk
 cases hk:f==71 with
 |true =>
  rw [hk,cond_true] at h
  have hf':f=71:=by simpa using hk
  subst hf'
  split at h
  case h_2=>cases h
  rename_i es
  cases hp:catP es with
  |none=>rw [hp] at h;cases h
  |some b =>
  rw [hp] at h
  injection h with h
  subst h
  exact q8i hp
 |false =>
 rw [hk,cond_false] at h
 clear hk
 cases h5:f==210 with
 |true =>
  rw [h5,cond_true] at h
  have hf':f=210:=by simpa using h5
  subst hf'
  split at h
  case h_2=>cases h
  rename_i n
  cases hp:itoaP n with
  |none=>rw [hp] at h;cases h
  |some b =>
  rw [hp] at h
  injection h with h
  subst h
  unfold itoaP at hp
  split at hp
  case isFalse=>cases hp
  rename_i hsz
  injection hp with hp
  subst hp
  refine q83 rfl fun w Z Y cargs hG hZ hs hr=>?_
  obtain ⟨u,rfl,r1⟩:=args1 hs hr
  rw [qux r1]
  exact (qmx n hsz.1 hsz.2 w (gw_pow hG)).mono fun e w' h=>⟨_,h.1,h.2,fun _ _=>.c (.str _)⟩
 |false =>
 rw [h5,cond_false] at h
 cases h
theorem argsD {cargs:Array Value} (hs:cargs.size=2):cargs=#[cargs.getD 0 undef,cargs.getD 1 undef]:=by
 apply Array.ext (by simpa using hs)
 intro i h1 h2
 match i,h1 with
 |0,h1=>simp [Array.getD,h1]
 |1,h1=>simp [Array.getD,h1]
 |i+2,h1=>omega
theorem qf0 (st:St) (vs:List V) (s1:St) (h:expX.run (List V×St) st some=some (vs,s1)):RuleOk Tryz.prog 122 2 st vs s1:=by
 unfold expX at h
 simp only at h
 split at h
 case h_2=>cases h
 rename_i id a e0 e1
 split at h
 case h_2=>cases h
 rename_i cs hcs
 split at h
 case h_2=>cases h
 rename_i j hj
 split at h
 case h_2=>cases h
 rename_i l hl
 cases hp:expP l a with
 |none=>rw [hp] at h;cases h
 |some r =>
 rw [hp] at h
 injection h with h
 injection h with h1 h2
 subst h1 h2
 intro G w0 w Z Y m cargs R hm hG hs hr
 have r0:=hr 0
 have r1:=hr 1
 rw [e0] at r0
 rw [e1] at r1
 rw [argsD hs]
 rw [quz r1]
 generalize cargs.getD 0 undef=u0 at r0
 cases r0 with
 |ptr _ _ g hmi =>
 obtain ⟨g',hm',hb⟩:=R.box id cs hcs
 rw [hmi] at hm'
 injection hm' with hm';injection hm' with hm';injection hm' with hm';injection hm' with hm'
 subst hm'
 obtain ⟨t,ws,hw,hrep⟩:=hb.ex
 cases hrep with
 |agg _ _ hlen h1 hcell =>
 have h6:cs[6]?=some (.mp j):=by
  rw [List.getD_eq_getElem?_getD] at hj
  cases h6:cs[6]? with
  |none=>rw [h6] at hj;cases hj
  |some v=>rw [h6] at hj;exact congrArg some hj
 obtain ⟨hlt,hel⟩:=List.getElem?_eq_some_iff.1 h6
 have hw6:ws[6]?=some (ws[6]'(by omega)):=Array.getElem?_eq_getElem (by omega)
 have r6:=hcell 6 _ _ hw6 h6
 generalize ws[6]'(by omega)=u6 at hw6 r6
 cases r6 with
 |mp _ b hmj =>
 obtain ⟨b',hm',hat⟩:=R.mp j l hl
 rw [hmj] at hm'
 injection hm' with hm';injection hm' with hm';injection hm' with hm'
 subst hm'
 have hown:=hat.owns (P:=Tryz.prog) (k:=9) Tryz.underlying9
 have hcl:w.cell? ⟨g,6,none⟩=some (.map (some b)):=by simp only [World.cell?,hw];exact hw6
 obtain ⟨ml,hml⟩:=gw_ml (BelA.gw R.bel R.gw)
 unfold expP at hp
 split at hp
 case isFalse=>cases hp
 rename_i hsz
 cases hq:expF l (a.size+1) a.data.toList [] with
 |none=>rw [hq] at hp;cases hp
 |some o =>
 rw [hq] at hp
 injection hp with hp
 subst hp
 refine (qf1 g b l.length ml l a w o hsz hml hcl hown hq).mono fun e w'=>?_
 rintro ⟨rfl,hb⟩
 exact ⟨_,Z,m,rfl,ZUp.refl,R.later (bel_of hb),.c (.str _),hG,hm⟩
theorem qjb {w w':World} {g:Nat} (h:w.grownBy w' (some g)) (hg:g<w.heap.size):∃ w1,Wr g w w1∧Bel w1 w'∧w1.heap[g]?=w'.heap[g]?:=by
 have hg':g<w'.heap.size:=Nat.lt_of_lt_of_le hg h.size
 refine ⟨{ w' with heap:=w.heap.setIfInBounds g w'.heap[g] },⟨h.os,h.tape,h.output,by simp,fun k hk=>?_⟩,⟨rfl,rfl,rfl,by simpa using h.size,fun k hk=>?_⟩,?_⟩
 ·show (w.heap.setIfInBounds g w'.heap[g])[k]?=_
  rw [Array.getElem?_setIfInBounds_ne (Ne.symm hk)]
 ·show w'.heap[k]?=(w.heap.setIfInBounds g w'.heap[g])[k]?
  have hk:k<w.heap.size:=by simpa using hk
  by_cases e:k=g
  ·subst e
   rw [Array.getElem?_setIfInBounds_self_of_lt hg,Array.getElem?_eq_getElem hg']
  ·rw [Array.getElem?_setIfInBounds_ne (Ne.symm e)]
   exact h.block k hk (fun e2=>e (by injection e2))
 ·show (w.heap.setIfInBounds g w'.heap[g])[g]?=_
  rw [Array.getElem?_setIfInBounds_self_of_lt hg,Array.getElem?_eq_getElem hg']
theorem qc7 (st:St) (vs:List V) (s1:St) (h:(delX 209).run (List V×St) st some=some (vs,s1)):RuleOk Tryz.prog 208 2 st vs s1:=by
 unfold delX at h
 simp only at h
 split at h
 case h_2=>cases h
 rename_i j f e0 e1
 cases hf:f==209 with
 |false=>rw [hf] at h;cases h
 |true =>
 rw [hf,cond_true] at h
 have hf':f=209:=by simpa using hf
 subst hf'
 split at h
 case h_2=>cases h
 rename_i l hl
 cases hp:delP l with
 |none=>rw [hp] at h;cases h
 |some l' =>
 rw [hp] at h
 injection h with h
 injection h with h1 h2
 subst h1 h2
 unfold delP at hp
 split at hp
 case isFalse=>cases hp
 rename_i hall
 injection hp with hp
 subst hp
 intro G w0 w Z Y m cargs R hm hG hs hr
 have r0:=hr 0
 have r1:=hr 1
 rw [e0] at r0
 rw [e1] at r1
 rw [argsD hs]
 generalize cargs.getD 0 undef=u0 at r0
 generalize cargs.getD 1 undef=u1 at r1
 cases r0 with
 |mp _ b hmj =>
 have hu1:u1=.func (.func 209) #[] #[]:=by
  cases r1 with
  |fn _ cs _ hlen _ _ =>
   have:cs=#[]:=Array.size_eq_zero_iff.1 (by simpa using hlen)
   rw [this]
 subst hu1
 obtain ⟨b',hm',hat⟩:=R.mp j l hl
 rw [hmj] at hm'
 injection hm' with hm';injection hm' with hm';injection hm' with hm'
 subst hm'
 have hown:=hat.owns (P:=Tryz.prog) (k:=9) Tryz.underlying9
 refine (qcd b l.length l w hown (fun p hp=>of_decide_eq_true (List.all_eq_true.1 hall p hp))).mono fun e w'=>?_
 rintro ⟨rfl,ho,hg⟩
 obtain ⟨l2,hl2,hat2,_⟩:=MapAt.of_owns (base:=w0.own) hat.base Tryz.underlying9 ho
 have:=qb7 hl2
 subst this
 obtain ⟨w1,hw1,hb1,he1⟩:=qjb hg hown.lt
 have hat1:MapAt w0.own w1 b (l.filter fun p=>!digP p.1):=by
  obtain ⟨es,clock,q1,q2⟩:=hat2.ex
  exact ⟨hat2.base,es,clock,by rw [he1];exact q1,q2⟩
 have R1:=(R.write_map hl hmj hw1 hat1).later hb1
 exact ⟨_,Z,m,rfl,ZUp.refl,R1,.tup _ _ rfl (fun i u x hu _=>by simp at hu),hG,hm⟩
theorem X0_ok:XOk Tryz.prog X0:=by
 refine ⟨X0c_ok,fun f R st vs s1 hf0 h=>?_⟩
 have hf:X0h f=some R:=hf0
 clear hf0
 unfold X0h at hf
 cases h1:f==93 with
 |true =>
  rw [h1,cond_true] at hf
  injection hf with hR
  have hf':f=93:=by simpa using h1
  subst hR
  subst hf'
  exact q10b st vs s1 h
 |false =>
 rw [h1,cond_false] at hf
 clear h1
 cases h1:f==122 with
 |true =>
  rw [h1,cond_true] at hf
  injection hf with hR
  have hf':f=122:=by simpa using h1
  subst hR
  subst hf'
  exact qf0 st vs s1 h
 |false =>
 rw [h1,cond_false] at hf
 clear h1
 cases h1:f==208 with
 |true =>
  rw [h1,cond_true] at hf
  injection hf with hR
  have hf':f=208:=by simpa using h1
  subst hR
  subst hf'
  exact qc7 st vs s1 h
 |false =>
 rw [h1,cond_false] at hf
 clear h1
 cases hf
end Go.Proofs.YtfakibajjibjjaaGreatDoor
namespace Go.Proofs.YtfakibajjibjjaaGreatDoor
open Go.RowKit
section
variable {P:Program} {live:FuncId→Nat→List Nat} {X:XT}
theorem qq (hmo:P.follows .mixedOrders=true) (hX:XOk P X) {f:FuncId} {nt:Nat} {c:Code} {s:St} {r:Nat×St} (h:Exec P live X f nt c s=some r) (Y:ZMap) (w0:WB):CodeOk P Y w0 nt c s r:=by
 obtain ⟨N,hN⟩:=qr P live X h
 exact (qey hmo hX N f nt c s r Y w0 (hN N (Nat.le_refl _))).1
theorem lS_ok (hmo:P.follows .mixedOrders=true) (hX:XOk P X) {σ ω:Type} {f nt:Nat} {c:Code} {s:SC σ} {o:OC ω} {x:σ} {r:ω} (h:lS P live X f nt c s o x=some r)
  (hc:canon (headOf live f c) (headS live f c (s.c.enc x).st)=(s.c.enc x).st) (Y:ZMap) (w0:WB):CodeOk P Y w0 nt (.loop c) (s.c.enc x).st ((o.enc r).1,(o.enc r).2.st):=by
 refine qq (live:=live) hmo hX (f:=f) ?_ Y w0
 apply qs
 rw [q10i,hc]
 exact qnl h
end
end Go.Proofs.YtfakibajjibjjaaGreatDoor
