/- The rules are sound. -/
import Derived.Test.YtmlcmoaonaomfaaGreatDoorGB
import Derived.Test.YtmlcmoaonaomfaaGreatDoorZ30
import Derived.Test.YtmlcmoaonaomfaaGreatDoorZ34
import Derived.Test.YtmlcmoaonaomfaaGreatDoorZ35
import Derived.Test.YtmlcmoaonaomfaaGreatDoorZ36
import Derived.Test.YtmlcmoaonaomfaaGreatDoorZ32
import Derived.Test.YtmlcmoaonaomfaaGreatDoorZ37
import Derived.Shelf.Strconv.AtoiAll
import Derived.Lib.AtoiAllCases
import Derived.Test.YtmlcmoaonaomfaaGreatDoorZ24
namespace Go.Proofs.YtmlcmoaonaomfaaGreatDoor
open Go.RowKit
theorem bel_of {w w':World} (h:Below w.heap.size w w'):Bel w w':=⟨h.os,h.tape,h.output,h.size,h.block⟩
theorem gw_ml {w:World} (h:GW w):∃ m,w.cell? ⟨0,0,none⟩=some (.int .i64 m):=by unfold GW at h;exact h.1
theorem gw_bel {w w':World} (h:GW w) (hb:Bel w w'):GW w':=BelA.gw (q1el.2 hb) ⟨h,GB.no⟩
theorem gw_pow {w : World} (h : GW w) : Lib.TabIs Tryz.prog w "internal/strconv.uint64pow10" .u64 Lib.pow10Tab := by
 unfold GW at h
 obtain ⟨_,⟨t,fz,h⟩,_⟩:=h
 have hn : Tryz.prog.globalNamed "internal/strconv.uint64pow10" = some 1 := by kernel_rfl
 unfold Lib.TabIs World.var?
 rw [hn]
 simp only [x0q,h]
theorem gw_syn {w:World} (h:GW w):∃ ev,w.cell? ⟨6,0,none⟩=some ev/\(ev=.nilIface∨∃ te pe,ev=.iface te pe):=by
 unfold GW at h
 exact h.2.2.1
theorem gw_ran {w:World} (h:GW w):∃ ev,w.cell? ⟨7,0,none⟩=some ev/\(ev=.nilIface∨∃ te pe,ev=.iface te pe):=by
 unfold GW at h
 exact h.2.2.2.1
theorem qxp {w w':World} {Z:ZMap} (hG:GW w) (hb:Bel w w') (hZ:∀ b o u,Z b o=some u->w.cell? ⟨b,o,none⟩=some u):Rel (wb w) Z (λ_ _=>none) (λ_=>none) (λi=>([]:List B)[i]?) (λ_=>false) w' :=
 ⟨q1el.2 hb,⟨hG,GB.no⟩,λb o u h=>by rw [hb.cell _ (qar (hZ _ _ _ h))];exact hZ _ _ _ h,(λ_ _ _ h=>by cases h),by simp,by simp,by simp,by simp,by simp⟩
theorem args1 {cargs:Array Value} {a:V} {Z Y:ZMap} (hs:cargs.size=1) (hr:∀ (i:Nat) u x,cargs[i]?=some u->[a][i]?=some x->Rep Z Y noM u x):∃ u,cargs=#[u]/\Rep Z Y noM u a:=by
 refine ⟨cargs[0]'(by omega),?_,hr 0 _ _ (Array.getElem?_eq_getElem _) rfl⟩
 apply Array.ext (by simpa using hs)
 intro i h1 h2
 have:i=0:=by omega
 subst this
 rfl
theorem args2 {cargs:Array Value} {a b:V} {Z Y:ZMap} (hs:cargs.size=2) (hr:∀ (i:Nat) u x,cargs[i]?=some u->[a,b][i]?=some x->Rep Z Y noM u x):∃ u v,cargs=#[u,v]/\Rep Z Y noM u a/\Rep Z Y noM v b:=by
 refine ⟨cargs[0]'(by omega),cargs[1]'(by omega),?_,hr 0 _ _ (Array.getElem?_eq_getElem _) rfl,hr 1 _ _ (Array.getElem?_eq_getElem _) rfl⟩
 apply Array.ext (by simpa using hs)
 intro i h1 h2
 match i,h1 with
 |0,_=>rfl
 |1,_=>rfl
 |i+2,h1=>omega
theorem q8z {f:FuncId} {args:List V} {x:V} (ho:okRes x=true) (h:∀ (w:World) (Z Y:ZMap) (cargs:Array Value),GW w->(∀ b o u,Z b o=some u->w.cell? ⟨b,o,none⟩=some u)->cargs.size=args.length->(∀ (i:Nat) u x,cargs[i]?=some u->args[i]?=some x->Rep Z Y noM u x) ->
  Calls Tryz.prog f cargs w λe w'=>∃ cv,e=.returned cv/\Bel w w'/\∀ (Z:ZMap) Y,Rep Z Y noM cv x):CallOk Tryz.prog f args (x,[]):=by
 refine ⟨ho,(λb hb=>by cases hb),λw Z Y cargs hG hZ hY hs hr=>(h w Z Y cargs hG hZ hs hr).mono λe w'=>?_⟩
 rintro ⟨cv,rfl,hb,r⟩
 exact ⟨cv,Z,λ_=>none,rfl,ZUp.refl,qxp hG hb hZ,r _ _,λi h=>absurd rfl h⟩
theorem qoy (n : Int) (h0 : -9223372036854775808 ≤ n) (h1 : n ≤ 9223372036854775807) (w : World) (ht : Lib.TabIs Tryz.prog w "internal/strconv.uint64pow10" .u64 Lib.pow10Tab) :
  Calls Tryz.prog 67 #[.int .i64 n] w λe w'=>e=.returned (.string ⟨(Lib.itoa n).toArray⟩)/\Bel w w':=(Any.strconv_Itoa laysM171 n h0 h1 w ht).mono λe w'=>by
 rintro ⟨rfl,k,os,rfl⟩
 refine ⟨rfl,rfl,rfl,rfl,?_,λk hk=>?_⟩
 ·show w.heap.size<=(w.heap++os).size
  rw [Array.size_append];omega
 ·show (w.heap++os)[k]?=_
  rw [Array.getElem?_append_left hk]
theorem nv_app (a:List UInt8) (c:UInt8):nvL (a++[c])=10*nvL a+(c.toNat - 48):=by simp [nvL,List.foldl_append]
theorem nv_dec (n:Nat):nvL (Lib.decDigits n)=n:=by
 induction n using Nat.strongRecOn with
 |_ n ih =>
  rw [Lib.decDigits]
  split
  ·rename_i h
   simp only [nvL,List.foldl_cons,List.foldl_nil]
   rw [UInt8.toNat_ofNat']
   omega
  ·rename_i h
   rw [nv_app,ih (n / 10) (by omega),UInt8.toNat_ofNat']
   omega
theorem pu_app (c:UInt8):∀ (l:List UInt8) (acc u:Nat),Lib.parseUint10 acc l=.ok u->Lib.parseUint10 acc (l++[c])=Lib.parseUint10 u [c]
 |[],acc,u,h=>by
  simp only [Lib.parseUint10] at h
  injection h with h
  rw [h]
  rfl
 |d::l,acc,u,h=>by
  simp only [Lib.parseUint10,List.cons_append] at h ⊢
  split at h
  ·rename_i h1
   rw [if_pos h1]
   split at h;· cases h
   rename_i h2
   rw [if_neg h2]
   split at h;· cases h
   rename_i h3
   rw [if_neg h3]
   rw [pu_app c l _ u h]
   simp only [Lib.parseUint10]
  ·cases h
theorem pu_dec (n:Nat) (hn:n<=9223372036854775807):Lib.parseUint10 0 (Lib.decDigits n)=.ok n:=by
 induction n using Nat.strongRecOn with
 |_ n ih =>
  rw [Lib.decDigits]
  split
  ·rename_i h
   have e:(UInt8.ofNat (48+n)).toNat=48+n:=by rw [UInt8.toNat_ofNat'];omega
   simp only [Lib.parseUint10,e]
   rw [if_pos (by omega),if_neg (by omega),if_neg (by omega)]
   congr 1
   omega
  ·rename_i h
   have e:(UInt8.ofNat (48+n % 10)).toNat=48+n % 10:=by rw [UInt8.toNat_ofNat'];omega
   rw [pu_app _ _ _ _ (ih (n / 10) (by omega) (by omega))]
   simp only [Lib.parseUint10,e]
   rw [if_pos (by omega),if_neg (by omega),if_neg (by omega)]
   congr 1
   omega
theorem qc7 (n:Nat):∃ c r,Lib.decDigits n=c::r/\48<=c.toNat:=by
 induction n using Nat.strongRecOn with
 |_ n ih =>
  rw [Lib.decDigits]
  split
  ·rename_i h
   refine ⟨_,_,rfl,?_⟩
   rw [UInt8.toNat_ofNat']
   omega
  ·rename_i h
   obtain ⟨c,r,h1,h2⟩:=ih (n / 10) (by omega)
   rw [h1]
   exact ⟨c,_,rfl,h2⟩
theorem q54 (n:Nat) (hn:n<=9223372036854775807):Lib.atoiAll (Lib.decDigits n)=.ok (n:Int):=by
 obtain ⟨c,r,h1,h2⟩:=qc7 n
 have h3:=pu_dec n hn
 rw [h1] at h3 ⊢
 rw [Lib.atoiAll_plain c r (by omega) (by omega)]
 unfold Lib.parseMag
 rw [if_neg (by simp),h3]
 have e:¬ 9223372036854775808<=n:=by omega
 simp only [Lib.signless,if_neg e]
theorem ba_eq {s t:BA}:s=t ↔ s.data.toList=t.data.toList:=⟨λh=>by rw [h],λh=>ByteArray.ext (Array.toList_inj.1 h)⟩
theorem qts {s:BA} {v:Int} (h:Lib.atoiAll s.data.toList=.ok v) (most:Int) (hm:most<=9223372036854775807) :
  (if s.data.toList=Lib.decDigits (nvL s.data.toList)/\(nvL s.data.toList:Int)<=most then ((nvL s.data.toList:Int),true) else (0,false)) =
  (if Lib.itoa v=s.data.toList/\0<=v/\v<=most then (v,true) else (0,false)):=by
 by_cases hc:Lib.itoa v=s.data.toList/\0<=v/\v<=most
 ·rw [if_pos hc]
  obtain ⟨h1,h2,h3⟩:=hc
  have e:Lib.itoa v=Lib.decDigits v.toNat:=by unfold Lib.itoa;rw [if_neg (by omega)]
  rw [e] at h1
  rw [←h1,nv_dec,if_pos ⟨rfl,by omega⟩]
  congr 1
  omega
 ·rw [if_neg hc,if_neg ?_]
  rintro ⟨h1,h2⟩
  rw [h1] at h
  rw [q54 _ (by omega)] at h
  injection h with h
  subst h
  refine hc ⟨?_,by omega,h2⟩
  unfold Lib.itoa
  rw [if_neg (by omega),x3q]
  exact h1.symm
theorem qtr {s:BA} (h:∀ v,Lib.atoiAll s.data.toList≠.ok v) (most:Int) (hm:most<=9223372036854775807) :
  (if s.data.toList=Lib.decDigits (nvL s.data.toList)/\(nvL s.data.toList:Int)<=most then ((nvL s.data.toList:Int),true) else (0,false))=(0,false):=by
 rw [if_neg]
 rintro ⟨h1,h2⟩
 have:=h (nvL s.data.toList)
 rw [h1] at this
 rw [nv_dec] at this
 exact this (q54 _ (by omega))
theorem q7i (w:World) (e:TypeId) (t:BA):Bel w (Lib.bytesWorld w e t):=⟨rfl,rfl,rfl,by rw [Lib.bytesWorld_size];omega,λk hk=>Lib.bytesWorld_at_old w e t k hk⟩
set_option maxRecDepth 100000 in
set_option maxHeartbeats 1600000 in
theorem qtw (s:BA) (most:Int) (w:World) (hG:GW w) (r:Int×Bool) (hr:numP s most=some r) :
  Calls Tryz.prog 135 #[.string s,.int .i64 most] w λe w'=>e=.returned (.tuple #[.int .i64 r.1,.bool r.2])/\Bel w w':=by
 unfold numP at hr
 split at hr
 case isFalse=>cases hr
 rename_i hsm
 obtain ⟨hs,hm⟩:=hsm
 injection hr with hr
 obtain ⟨es,hes,hes2⟩:=gw_syn hG
 obtain ⟨er,her,her2⟩:=gw_ran hG
 cases ha:Lib.atoiAll s.data.toList with
 |ok v =>
  rw [qts ha most hm] at hr
  obtain ⟨hv0,hv1⟩:=Lib.atoiAll_bounds ha
  have hat:Calls Tryz.prog 156 #[.string s] w λe w'=>e=.returned (.tuple #[.int .i64 v,.nilIface])/\Bel w w':=(Any.strconv_Atoi_ok laysC172 s (by omega) v ha w).mono λe w' h=>⟨h.1,by
   rcases h.2 with h|⟨t,h⟩
   ·rw [h];exact Bel.refl _
   ·rw [h];exact q7i _ _ _⟩
  by_cases h1:Lib.itoa v=s.data.toList
  ·have hse:(⟨(Lib.itoa v).toArray⟩:BA)=s:=by rw [ba_eq];simpa using h1
   by_cases h2:0<=v
   ·by_cases h3:v<=most
    ·rw [if_pos ⟨h1,h2,h3⟩] at hr
     subst hr
     go_enter Tryz.func135,Tryz.ntmps135
     go_wp2_with (first|(go_at_call 156;refine hat.mono ?_;rintro e w1 ⟨rfl,hb1⟩)|(go_at_call 67;refine (qoy v hv0 hv1 _ (gw_pow (gw_bel hG hb1))).mono ?_;rintro e w2 ⟨rfl,hb2⟩;rw [hse]))
     go_ret2
     exact ⟨rfl,hb1.trans hb2⟩
    ·rw [if_neg (λh=>h3 h.2.2)] at hr
     subst hr
     have h3':most<v:=by omega
     go_enter Tryz.func135,Tryz.ntmps135
     go_wp2_with (first|(go_at_call 156;refine hat.mono ?_;rintro e w1 ⟨rfl,hb1⟩)|(go_at_call 67;refine (qoy v hv0 hv1 _ (gw_pow (gw_bel hG hb1))).mono ?_;rintro e w2 ⟨rfl,hb2⟩;rw [hse]))
     go_ret2
     exact ⟨rfl,hb1.trans hb2⟩
   ·rw [if_neg (λh=>h2 h.2.1)] at hr
    subst hr
    have h2':v<0:=by omega
    go_enter Tryz.func135,Tryz.ntmps135
    go_wp2_with (first|(go_at_call 156;refine hat.mono ?_;rintro e w1 ⟨rfl,hb1⟩)|(go_at_call 67;refine (qoy v hv0 hv1 _ (gw_pow (gw_bel hG hb1))).mono ?_;rintro e w2 ⟨rfl,hb2⟩;rw [hse]))
    go_ret2
    exact ⟨rfl,hb1.trans hb2⟩
  ·rw [if_neg (λh=>h1 h.1)] at hr
   subst hr
   have h1':¬ Lib.itoa v=s.toList:=by rw [ByteArray.toList_eq];exact h1
   go_enter Tryz.func135,Tryz.ntmps135
   go_wp2_with (first|(go_at_call 156;refine hat.mono ?_;rintro e w1 ⟨rfl,hb1⟩)|(go_at_call 67;refine (qoy v hv0 hv1 _ (gw_pow (gw_bel hG hb1))).mono ?_;rintro e w2 ⟨rfl,hb2⟩))
   go_ret2
   exact ⟨rfl,hb1.trans hb2⟩
 |range =>
  rw [qtr (by rw [ha];intro v h;cases h) most hm] at hr
  subst hr
  have hat:=Any.strconv_Atoi_range laysC172 s (by omega) ha er w her her2
  go_enter Tryz.func135,Tryz.ntmps135
  go_wp2_with (go_at_call 156;refine hat.mono ?_;rintro e w' ⟨N,rfl,hN,_,hB⟩)
  go_ret2
  exact ⟨rfl,bel_of hB⟩
 |_ =>
  rw [qtr (by rw [ha];intro v h;cases h) most hm] at hr
  subst hr
  have hat:=Any.strconv_Atoi_syntax laysC172 s (by omega) ha es w hes hes2
  go_enter Tryz.func135,Tryz.ntmps135
  go_wp2_with (go_at_call 156;refine hat.mono ?_;rintro e w' ⟨N,rfl,hN,_,hB⟩)
  go_ret2
  exact ⟨rfl,bel_of hB⟩
theorem qxz (l:List UInt8):∀ n:Nat,Lib.repeatL l n=(List.replicate n l).flatten
 |0=>rfl
 |n+1=>by rw [Lib.repeatL,qxz l n,List.replicate_succ,List.flatten_cons]
theorem qy6 (s:BA) (n:Int) (r:BA) (hr:repP s n=some r) (w:World) :
  Calls Tryz.prog 62 #[.string s,.int .i64 n] w λe w'=>e=.returned (.string r)/\Bel w w':=by
 unfold repP at hr
 split at hr
 case isFalse=>cases hr
 rename_i hc
 injection hr with hr
 subst hr
 obtain ⟨h0,h1,h2⟩:=hc
 obtain ⟨k,rfl⟩:∃ k:Nat,n=k:=⟨n.toNat,(Int.toNat_of_nonneg h0).symm⟩
 have hb:s.size*k<=140737488355328:=by
  have:=Nat.mul_le_mul h2 (show k<=1000000 by omega)
  omega
 refine (Any.strings_Repeat lays105 qa s k w (by omega) hb).mono λe w' h=>⟨?_,bel_of h.2⟩
 rw [h.1,qxz,x3q]
theorem q1a1:∀ {es:List (List C)} {l:List BA},strsOf es=some l->es=l.map λs=>[C.str s]
 |[],l,h=>by injection h with h;subst h;rfl
 |e::es,l,h=>by
  unfold strsOf at h
  split at h
  ·rename_i e1;cases e1
  ·rename_i s l' e1
   injection e1 with e1 e2
   subst e1 e2
   cases hq:strsOf es with
   |none=>rw [hq] at h;cases h
   |some q =>
    rw [hq] at h
    injection h with h
    subst h
    rw [q1a1 hq]
    rfl
  ·cases h
theorem qp9 (es:List (List C)) (l:List BA) (sep r:BA) (he:strsOf es=some l) (hr:joinP l sep=some r) (w:World) (Z:ZMap) (hZ:∀ b o u,Z b o=some u->w.cell? ⟨b,o,none⟩=some u) (v:Value) (hv:RepC Z v (.sl es)) :
  Calls Tryz.prog 50 #[v,.string sep] w λe w'=>e=.returned (.string r)/\Bel w w':=by
 unfold joinP at hr
 split at hr
 case isFalse=>cases hr
 rename_i hc
 injection hr with hr
 subst hr
 have hes:=q1a1 he
 subst hes
 cases hv with
 |sl A n c k b off U _ hl hc2 hm hk hA hz hrr hN =>
  rw [List.length_map] at hl
  cases l with
  |nil =>
   simp only [x8q] at hl
   subst hl
   refine (Any.strings_Join_none lays156 qb A c sep w).mono λe w' h=>⟨?_,by rw [h.2];exact Bel.refl _⟩
   rw [h.1]
   rfl
  |cons x l =>
   have hA':=hA (by simp)
   subst hA' hl
   have hk1:k=1:=(hk [C.str x] (by simp)).symm
   subst hk1
   have hcell:∀ (j:Nat) y,(x::l)[j]?=some y->w.cell? ⟨b,off+j,none⟩=some (.string y):=λj y hy=>by
    have e1:((x::l).map λs=>[C.str s])[j]?=some [C.str y]:=by rw [x14q,hy];rfl
    have h1:=hz j _ 0 _ e1 rfl
    have h2:=hrr j _ 0 _ e1 rfl
    have h3:=hZ _ _ _ h1
    rw [Nat.mul_one,Nat.add_zero] at h3 h2
    cases hU:U j with
    |string q=>rw [hU] at h2 h3;cases h2;exact h3
    |_=>rw [hU] at h2;cases h2
   refine (Any.strings_Join lays156 qb b off c (x::l) sep w hcell (qar (hcell 0 x rfl)) hc.2 hc2 hc.1).mono λe w' h=>⟨h.1,bel_of h.2⟩
theorem qae (l:List UInt8):decide (0<=Lib.indexAny l crlf0)=l.any λb=>crlf0.contains b:=by
 induction l with
 |nil=>rfl
 |cons b l ih =>
  rw [List.any_cons,Lib.indexAny,←ih]
  cases crlf0.contains b with
  |true=>rfl
  |false =>
   have:=Lib.indexAny_ge crlf0 l
   by_cases h:Lib.indexAny l crlf0=-1
   ·rw [h];rfl
   ·have h2:(Lib.indexAny l crlf0==-1)=false:=by simpa using h
    simp only [h2,x1q,x21q,Bool.false_or]
    rw [Bool.eq_iff_iff]
    simp
    omega
set_option maxRecDepth 100000 in
theorem qac (s:BA) (w:World) (hs:s.size<4294967281):Calls Tryz.prog 134 #[.string s,.string ⟨#[13,10,0]⟩] w λe w'=>e=.returned (.bool (s.data.toList.any λb=>crlf0.contains b))/\Below w.heap.size w w':=by
 have hc:Calls Tryz.prog 155 #[.string s,.string ⟨#[13,10,0]⟩] w λe w'=>e=.returned (.int .i64 (Lib.indexAny s.data.toList crlf0))/\Below w.heap.size w w':=by
  by_cases h8:s.size<=8
  ·exact qn5 s w h8
  ·exact qn4 s ⟨#[13,10,0]⟩ w (by decide) (by omega) hs (by decide) (λj b hb=>by
    have:b∈([13,10,0]:List UInt8):=List.mem_of_getElem? hb
    simp at this
    rcases this with rfl|rfl|rfl <;> decide)
 go_enter Tryz.func134,Tryz.ntmps134
 go_wp2_with (go_at_call 155;refine hc.mono ?_;rintro e w' ⟨rfl,hb⟩)
 go_ret
 refine ⟨?_,hb⟩
 rw [←qae s.data.toList]
 rfl
theorem qbf (s sub:BA) (m:Int) (w:World) (hs:s.size<4294967281) (hm:w.cell? ⟨0,0,none⟩=some (.int .i64 m)) :
  Calls Tryz.prog 163 #[.string s,.string sub] w λe w'=>e=.returned (.bool (Lib.contains s.data.toList sub.data.toList))/\w'=w:=Any.strings_Contains lays144 s sub m w hs hm
set_option maxHeartbeats 400000 in
set_option maxRecDepth 4000 in
theorem qaw (w:World):Calls Tryz.prog 54 #[.slice none 0 0] w λe w'=>e=.returned (.slice none 0 0)/\w=w':=by
 have hz:∀ w:World,(binOp .eql 26 (.slice none 0 0) (.slice none 0 0)).run Tryz.prog w=.ok (.bool true) w:=λw=>Lib.run_eql_slice_nil w _ _ _ _ _ _ _ Tryz.underlying26
 go_enter Tryz.func54,Tryz.ntmps54
 go_wp2
 go_ret
 exact ⟨rfl,rfl⟩
theorem qb5 {f:FuncId} (hnil:∀ w,Calls Tryz.prog f #[.slice none 0 0] w λe w'=>e=.returned (.slice none 0 0)/\w=w') (c2:CallOk Tryz.prog f [.c .ne] (.row 0 0,[.row []])):CallOk Tryz.prog f [.c (.sl [])] (.row 0 0,[.row []]):=by
 refine ⟨c2.1,c2.2.1,λw Z Y cargs hG hZ hY hs hr=>?_⟩
 have hs1:cargs.size=1:=hs
 obtain ⟨u,hu⟩:∃ u,cargs[0]?=some u:=⟨cargs[0]'(by omega),Array.getElem?_eq_getElem _⟩
 have r0:=hr 0 u _ hu rfl
 cases r0 with
 |c r0 =>
 have one:∀ y:C,RepC Z u y->∀ (i:Nat) u' x,cargs[i]?=some u'->[V.c y][i]?=some x->Rep Z Y noM u' x:=by
  intro y hy i u' x h1 h2
  cases i with
  |zero =>
   rw [hu] at h1
   injection h1 with h1;subst h1
   simp at h2;subst h2
   exact .c hy
  |succ i=>simp at h2
 cases r0 with
 |sl A n c k b off U es hl hc hm hk hA hz hr' hN =>
  have hl':n=0:=by simpa using hl.symm
  subst hl'
  cases A with
  |none =>
   have:=hN rfl
   subst this
   obtain rfl:cargs=#[.slice none 0 0]:=by
    apply Array.ext (by simpa using hs1)
    intro i h1 h2
    have:i=0:=by simp at h2;omega
    subst this
    rw [Array.getElem?_eq_getElem h1] at hu
    injection hu
   refine (hnil w).mono λe w'=>?_
   rintro ⟨rfl,rfl⟩
   refine ⟨_,Z,λi=>if i=0 then some (.slice none 0 0) else none,rfl,ZUp.refl,⟨q1el.2 (Bel.refl _),⟨hG,GB.no⟩,hZ,(λ_ _ _ h=>by cases h),?_,?_,?_,?_,?_⟩,.row 0 0 none 0 (by simp) (by simp),?_⟩
   ·intro id cs h
    cases id <;> simp at h
   ·intro id es h
    cases id with
    |zero=>simp at h;subst h;exact .inl ⟨by simp,rfl⟩
    |succ id=>simp at h
   ·intro id es q v h
    cases id <;> simp at h
   ·intro id l h
    cases id <;> simp at h
   ·intro id id' g _ _ h
    unfold blkOf at h
    by_cases h0:id=0 <;> simp [h0] at h
   ·intro i h
    by_cases h0:i=0
    ·subst h0;simp
    ·simp [h0] at h
  |some a=>exact c2.2.2 w Z Y cargs hG hZ hY hs (one .ne (.ne a c hm))
theorem mo_ok:Tryz.prog.follows .mixedOrders=true:=by kernel_rfl
theorem qb6 {f:FuncId} (hf:clones.contains f=true):CallOk Tryz.prog f [.c (.sl [])] (.row 0 0,[.row []]):=by
 have h:f∈clones:=by simpa using hf
 clear hf
 unfold clones at h
 repeat
  rcases h with _|⟨_,h⟩
  ·first
    |fail
    |exact qb5 qaw (qh Tryz.prog lv ⟨λ_ _=>none,λ_=>none⟩ mo_ok ⟨λ_ _ _ h=>by (cases h),λ_ _ _ _ _ h=>by (cases h)⟩ (qf (n:=30) (by kernel_rfl)))
 cases h
theorem X0c_ok:∀ f args r,X0c f args=some r->CallOk Tryz.prog f args r:=by
 intro f args r h
 unfold X0c at h
 cases hf:clones.contains f with
 |true =>
  rw [hf,x22q] at h
  split at h
  case h_2=>cases h
  injection h with h
  subst h
  exact qb6 hf
 |false =>
 rw [hf,cond_false] at h
 cases h1:f==163 with
 |true =>
  rw [h1,x22q] at h
  have hf':f=163:=by simpa using h1
  subst hf'
  split at h
  case h_2=>cases h
  rename_i s t
  cases hp:contP s t with
  |none=>rw [hp] at h;cases h
  |some b =>
  rw [hp] at h
  injection h with h
  subst h
  unfold contP at hp
  split at hp
  case isFalse=>cases hp
  rename_i hsz
  injection hp with hp
  subst hp
  refine q8z rfl λw Z Y cargs hG hZ hs hr=>?_
  obtain ⟨u,v,rfl,r1,r2⟩:=args2 hs hr
  rw [qy1 r1,qy1 r2]
  obtain ⟨m,hm⟩:=gw_ml hG
  exact (qbf s t m w hsz hm).mono λe w' h=>⟨_,h.1,by rw [h.2];exact Bel.refl _,λ_ _=>.c (.bool _)⟩
 |false =>
 rw [h1,cond_false] at h
 cases h2:f==125 with
 |true =>
  rw [h2,x22q] at h
  have hf':f=125:=by simpa using h2
  subst hf'
  split at h
  case h_2=>cases h
  rename_i s t
  cases hp:cutP s t with
  |none=>rw [hp] at h;cases h
  |some b =>
  rw [hp] at h
  injection h with h
  subst h
  unfold cutP at hp
  split at hp
  case isFalse=>cases hp
  rename_i hsz
  injection hp with hp
  subst hp
  refine q8z rfl λw Z Y cargs hG hZ hs hr=>?_
  obtain ⟨u,v,rfl,r1,r2⟩:=args2 hs hr
  rw [qy1 r1,qy1 r2]
  obtain ⟨m,hm⟩:=gw_ml hG
  refine (qbs s t m w hsz hm).mono λe w' h=>?_
  obtain ⟨he,n,rfl⟩:=h
  refine ⟨_,he,(Bel.refl w).drewN n,λ_ _=>.tup _ _ rfl ?_⟩
  intro i u x hu hx
  match i with
  |0=>simp at hu hx;subst hu;subst hx;exact .c (.str _)
  |1=>simp at hu hx;subst hu;subst hx;exact .c (.str _)
  |2=>simp at hu hx;subst hu;subst hx;exact .c (.bool _)
  |i+3=>simp at hu
 |false =>
 rw [h2,cond_false] at h
 cases h3:f==38 with
 |true =>
  rw [h3,x22q] at h
  have hf':f=38:=by simpa using h3
  subst hf'
  split at h
  case h_2=>cases h
  rename_i s c
  injection h with h
  subst h
  refine q8z rfl λw Z Y cargs hG hZ hs hr=>?_
  obtain ⟨u,v,rfl,r1,r2⟩:=args2 hs hr
  rw [qy1 r1,qy0 r2]
  exact (Any.strings_IndexByte lays137 s c w).mono λe w' h=>⟨_,h.1,by rw [h.2];exact Bel.refl _,λ_ _=>.c (.int _ _)⟩
 |false =>
 rw [h3,cond_false] at h
 cases h4:f==134 with
 |true =>
  rw [h4,x22q] at h
  have hf':f=134:=by simpa using h4
  subst hf'
  split at h
  case h_2=>cases h
  rename_i s t
  cases hp:canyP s t with
  |none=>rw [hp] at h;cases h
  |some b =>
  rw [hp] at h
  injection h with h
  subst h
  unfold canyP at hp
  split at hp
  case isFalse=>cases hp
  rename_i hsz
  injection hp with hp
  subst hp
  have ht:t=⟨#[13,10,0]⟩:=by
   apply ByteArray.ext
   exact Array.toList_inj.1 hsz.2
  subst ht
  refine q8z rfl λw Z Y cargs hG hZ hs hr=>?_
  obtain ⟨u,v,rfl,r1,r2⟩:=args2 hs hr
  rw [qy1 r1,qy1 r2]
  exact (qac s w hsz.1).mono λe w' h=>⟨_,h.1,bel_of h.2,λ_ _=>.c (.bool _)⟩
 |false =>
 rw [h4,cond_false] at h
 cases h6:f==135 with
 |true =>
  rw [h6,x22q] at h
  have hf':f=135:=by simpa using h6
  subst hf'
  split at h
  case h_2=>cases h
  rename_i s n
  cases hp:numP s n with
  |none=>rw [hp] at h;cases h
  |some b =>
  rw [hp] at h
  injection h with h
  subst h
  refine q8z rfl λw Z Y cargs hG hZ hs hr=>?_
  obtain ⟨u,v,rfl,r1,r2⟩:=args2 hs hr
  rw [qy1 r1,qy0 r2]
  refine (qtw s n w hG b hp).mono λe w' h=>⟨_,h.1,h.2,λ_ _=>.tup _ _ rfl ?_⟩
  intro i u x hu hx
  match i with
  |0=>simp at hu hx;subst hu;subst hx;exact .c (.int _ _)
  |1=>simp at hu hx;subst hu;subst hx;exact .c (.bool _)
  |i+2=>simp at hu
 |false =>
 rw [h6,cond_false] at h
 cases h7:f==64 with
 |true =>
  rw [h7,x22q] at h
  have hf':f=64:=by simpa using h7
  subst hf'
  split at h
  case h_2=>cases h
  rename_i s
  cases hp:quoP s with
  |none=>rw [hp] at h;cases h
  |some b =>
  rw [hp] at h
  injection h with h
  subst h
  unfold quoP at hp
  split at hp
  case isFalse=>cases hp
  rename_i hsz
  injection hp with hp
  subst hp
  refine q8z rfl λw Z Y cargs hG hZ hs hr=>?_
  obtain ⟨u,rfl,r1⟩:=args1 hs hr
  rw [qy1 r1]
  exact (qxd s hsz w).mono λe w' h=>⟨_,h.1,bel_of h.2,λ_ _=>.c (.str _)⟩
 |false =>
 rw [h7,cond_false] at h
 cases h8:f==62 with
 |true =>
  rw [h8,x22q] at h
  have hf':f=62:=by simpa using h8
  subst hf'
  split at h
  case h_2=>cases h
  rename_i s n
  cases hp:repP s n with
  |none=>rw [hp] at h;cases h
  |some b =>
  rw [hp] at h
  injection h with h
  subst h
  refine q8z rfl λw Z Y cargs hG hZ hs hr=>?_
  obtain ⟨u,v,rfl,r1,r2⟩:=args2 hs hr
  rw [qy1 r1,qy0 r2]
  exact (qy6 s n b hp w).mono λe w' h=>⟨_,h.1,h.2,λ_ _=>.c (.str _)⟩
 |false =>
 rw [h8,cond_false] at h
 cases h9:f==50 with
 |true =>
  rw [h9,x22q] at h
  have hf':f=50:=by simpa using h9
  subst hf'
  split at h
  case h_2=>cases h
  rename_i es s
  cases hl:strsOf es with
  |none=>rw [hl] at h;cases h
  |some l =>
  rw [hl] at h
  simp only [x0q] at h
  cases hp:joinP l s with
  |none=>rw [hp] at h;cases h
  |some b =>
  rw [hp] at h
  injection h with h
  subst h
  refine q8z rfl λw Z Y cargs hG hZ hs hr=>?_
  obtain ⟨u,v,rfl,r1,r2⟩:=args2 hs hr
  rw [qy1 r2]
  cases r1 with
  |c r1=>exact (qp9 es l s b hl hp w Z hZ u r1).mono λe w' h=>⟨_,h.1,h.2,λ_ _=>.c (.str _)⟩
 |false =>
 rw [h9,cond_false] at h
 cases hk:f==82 with
 |true =>
  rw [hk,x22q] at h
  have hf':f=82:=by simpa using hk
  subst hf'
  split at h
  case h_2=>cases h
  rename_i es
  cases hp:bodP es with
  |none=>rw [hp] at h;cases h
  |some b =>
  rw [hp] at h
  injection h with h
  subst h
  exact q7x hp
 |false =>
 rw [hk,cond_false] at h
 clear hk
 cases hk:f==53 with
 |true =>
  rw [hk,x22q] at h
  have hf':f=53:=by simpa using hk
  subst hf'
  split at h
  case h_2=>cases h
  rename_i es
  cases hp:catP es with
  |none=>rw [hp] at h;cases h
  |some b =>
  rw [hp] at h
  injection h with h
  subst h
  exact qah hp
 |false =>
 rw [hk,cond_false] at h
 clear hk
 cases h5:f==67 with
 |true =>
  rw [h5,x22q] at h
  have hf':f=67:=by simpa using h5
  subst hf'
  split at h
  case h_2=>cases h
  rename_i n
  cases hp:itoaP n with
  |none=>rw [hp] at h;cases h
  |some b =>
  rw [hp] at h
  injection h with h
  subst h
  unfold itoaP at hp
  split at hp
  case isFalse=>cases hp
  rename_i hsz
  injection hp with hp
  subst hp
  refine q8z rfl λw Z Y cargs hG hZ hs hr=>?_
  obtain ⟨u,rfl,r1⟩:=args1 hs hr
  rw [qy0 r1]
  exact (qoy n hsz.1 hsz.2 w (gw_pow hG)).mono λe w' h=>⟨_,h.1,h.2,λ_ _=>.c (.str _)⟩
 |false =>
 rw [h5,cond_false] at h
 cases h
theorem argsD {cargs:Array Value} (hs:cargs.size=2):cargs=#[cargs.getD 0 undef,cargs.getD 1 undef]:=by
 apply Array.ext (by simpa using hs)
 intro i h1 h2
 match i,h1 with
 |0,h1=>simp [Array.getD,h1]
 |1,h1=>simp [Array.getD,h1]
 |i+2,h1=>omega
theorem qg2 (st:St) (vs:List V) (s1:St) (h:expX.run (List V×St) st some=some (vs,s1)):RuleOk Tryz.prog 92 2 st vs s1:=by
 unfold expX at h
 simp only at h
 split at h
 case h_2=>cases h
 rename_i id a e0 e1
 split at h
 case h_2=>cases h
 rename_i cs hcs
 split at h
 case h_2=>cases h
 rename_i j hj
 split at h
 case h_2=>cases h
 rename_i l hl
 cases hp:expP l a with
 |none=>rw [hp] at h;cases h
 |some r =>
 rw [hp] at h
 injection h with h
 injection h with h1 h2
 subst h1 h2
 intro G w0 w Z Y m cargs R hm hG hs hr
 have r0:=hr 0
 have r1:=hr 1
 rw [e0] at r0
 rw [e1] at r1
 rw [argsD hs]
 rw [qy1 r1]
 generalize cargs.getD 0 undef=u0 at r0
 cases r0 with
 |ptr _ _ g hmi =>
 obtain ⟨g',hm',hb⟩:=R.box id cs hcs
 rw [hmi] at hm'
 injection hm' with hm';injection hm' with hm';injection hm' with hm';injection hm' with hm'
 subst hm'
 obtain ⟨t,ws,hw,hrep⟩:=hb.ex
 cases hrep with
 |agg _ _ hlen h1 hcell =>
 have h6:cs[6]?=some (.mp j):=by
  rw [x2q] at hj
  cases h6:cs[6]? with
  |none=>rw [h6] at hj;cases hj
  |some v=>rw [h6] at hj;exact congrArg some hj
 obtain ⟨hlt,hel⟩:=List.getElem?_eq_some_iff.1 h6
 have hw6:ws[6]?=some (ws[6]'(by omega)):=Array.getElem?_eq_getElem (by omega)
 have r6:=hcell 6 _ _ hw6 h6
 generalize ws[6]'(by omega)=u6 at hw6 r6
 cases r6 with
 |mp _ b hmj =>
 obtain ⟨b',hm',hat⟩:=R.mp j l hl
 rw [hmj] at hm'
 injection hm' with hm';injection hm' with hm';injection hm' with hm'
 subst hm'
 have hown:=hat.owns (P:=Tryz.prog) (k:=9) Tryz.underlying9
 have hcl:w.cell? ⟨g,6,none⟩=some (.map (some b)):=by simp only [World.cell?,hw];exact hw6
 obtain ⟨ml,hml⟩:=gw_ml (BelA.gw R.bel R.gw)
 unfold expP at hp
 split at hp
 case isFalse=>cases hp
 rename_i hsz
 cases hq:expF l (a.size+1) a.data.toList [] with
 |none=>rw [hq] at hp;cases hp
 |some o =>
 rw [hq] at hp
 injection hp with hp
 subst hp
 refine (qg3 g b l.length ml l a w o hsz hml hcl hown hq).mono λe w'=>?_
 rintro ⟨rfl,hb⟩
 exact ⟨_,Z,m,rfl,ZUp.refl,R.later (bel_of hb),.c (.str _),hG,hm⟩
theorem qke {w w':World} {g:Nat} (h:w.grownBy w' (some g)) (hg:g<w.heap.size):∃ w1,Wr g w w1/\Bel w1 w'/\w1.heap[g]?=w'.heap[g]?:=by
 have hg':g<w'.heap.size:=Nat.lt_of_lt_of_le hg h.size
 refine ⟨{ w' with heap:=w.heap.setIfInBounds g w'.heap[g] },⟨h.os,h.tape,h.output,by simp,λk hk=>?_⟩,⟨rfl,rfl,rfl,by simpa using h.size,λk hk=>?_⟩,?_⟩
 ·show (w.heap.setIfInBounds g w'.heap[g])[k]?=_
  rw [Array.getElem?_setIfInBounds_ne (Ne.symm hk)]
 ·show w'.heap[k]?=(w.heap.setIfInBounds g w'.heap[g])[k]?
  have hk:k<w.heap.size:=by simpa using hk
  by_cases e:k=g
  ·subst e
   rw [Array.getElem?_setIfInBounds_self_of_lt hg,Array.getElem?_eq_getElem hg']
  ·rw [Array.getElem?_setIfInBounds_ne (Ne.symm e)]
   exact h.block k hk (λe2=>e (by injection e2))
 ·show (w.heap.setIfInBounds g w'.heap[g])[g]?=_
  rw [Array.getElem?_setIfInBounds_self_of_lt hg,Array.getElem?_eq_getElem hg']
theorem qcg (st:St) (vs:List V) (s1:St) (h:(delX 145).run (List V×St) st some=some (vs,s1)):RuleOk Tryz.prog 144 2 st vs s1:=by
 unfold delX at h
 simp only at h
 split at h
 case h_2=>cases h
 rename_i j f e0 e1
 cases hf:f==145 with
 |false=>rw [hf] at h;cases h
 |true =>
 rw [hf,x22q] at h
 have hf':f=145:=by simpa using hf
 subst hf'
 split at h
 case h_2=>cases h
 rename_i l hl
 cases hp:delP l with
 |none=>rw [hp] at h;cases h
 |some l' =>
 rw [hp] at h
 injection h with h
 injection h with h1 h2
 subst h1 h2
 unfold delP at hp
 split at hp
 case isFalse=>cases hp
 rename_i hall
 injection hp with hp
 subst hp
 intro G w0 w Z Y m cargs R hm hG hs hr
 have r0:=hr 0
 have r1:=hr 1
 rw [e0] at r0
 rw [e1] at r1
 rw [argsD hs]
 generalize cargs.getD 0 undef=u0 at r0
 generalize cargs.getD 1 undef=u1 at r1
 cases r0 with
 |mp _ b hmj =>
 have hu1:u1=.func (.func 145) #[] #[]:=by
  cases r1 with
  |fn _ cs _ hlen _ _ =>
   have:cs=#[]:=Array.size_eq_zero_iff.1 (by simpa using hlen)
   rw [this]
 subst hu1
 obtain ⟨b',hm',hat⟩:=R.mp j l hl
 rw [hmj] at hm'
 injection hm' with hm';injection hm' with hm';injection hm' with hm'
 subst hm'
 have hown:=hat.owns (P:=Tryz.prog) (k:=9) Tryz.underlying9
 refine (qch b l.length l w hown (λp hp=>of_decide_eq_true (List.all_eq_true.1 hall p hp))).mono λe w'=>?_
 rintro ⟨rfl,ho,hg⟩
 obtain ⟨l2,hl2,hat2,_⟩:=MapAt.of_owns (base:=w0.own) hat.base Tryz.underlying9 ho
 have:=qbz hl2
 subst this
 obtain ⟨w1,hw1,hb1,he1⟩:=qke hg hown.lt
 have hat1:MapAt w0.own w1 b (l.filter λp=>!digP p.1):=by
  obtain ⟨es,clock,q1,q2⟩:=hat2.ex
  exact ⟨hat2.base,es,clock,by rw [he1];exact q1,q2⟩
 have R1:=(R.write_map hl hmj hw1 hat1).later hb1
 exact ⟨_,Z,m,rfl,ZUp.refl,R1,.tup _ _ rfl (λi u x hu _=>by simp at hu),hG,hm⟩
theorem X0_ok:XOk Tryz.prog X0:=by
 refine ⟨X0c_ok,λf R st vs s1 hf0 h=>?_⟩
 have hf:X0h f=some R:=hf0
 clear hf0
 unfold X0h at hf
 cases h1:f==92 with
 |true =>
  rw [h1,x22q] at hf
  injection hf with hR
  have hf':f=92:=by simpa using h1
  subst hR
  subst hf'
  exact qg2 st vs s1 h
 |false =>
 rw [h1,cond_false] at hf
 clear h1
 cases h1:f==144 with
 |true =>
  rw [h1,x22q] at hf
  injection hf with hR
  have hf':f=144:=by simpa using h1
  subst hR
  subst hf'
  exact qcg st vs s1 h
 |false =>
 rw [h1,cond_false] at hf
 clear h1
 cases hf
end Go.Proofs.YtmlcmoaonaomfaaGreatDoor
namespace Go.Proofs.YtmlcmoaonaomfaaGreatDoor
open Go.RowKit
noncomputable def sqF (s:BA):BA:=if s.size<=2000000 then (qa8 s).getD ⟨#[]⟩ else ⟨#[]⟩
theorem sqF_le (s:BA):(sqF s).size<=s.size:=by
 unfold sqF
 split
 ·rename_i h
  obtain ⟨r,e,hr⟩:=sqz_ok s h
  rw [e]
  exact hr
 ·exact Nat.zero_le _
set_option maxRecDepth 100000 in
theorem q182 (s:BA) (h:s.size<=1000000):CallOk Tryz.prog 116 [.c (.str s)] (.c (.str (sqF s)),[]):=by
 obtain ⟨r,e,hr⟩:=sqz_ok s (by omega)
 have h1:sqF s=r:=by rw [sqF,if_pos (by omega),e];rfl
 rw [h1]
 exact qh Tryz.prog lv X0 mo_ok X0_ok (qg5 e)
theorem q7y (xs:List Int) (h8:U8 xs) (hn:xs.length<=1000000):Ok (bodS xs) λr=>r.length<=4000000:=by
 have key:Ok (bodP (qcy.encL xs)) λr=>r.all bytC=true/\r.length<=4000000:=by
  unfold bodP
  cases hh:isHi (qcy.encL xs) with
  |true =>
   refine ⟨_,rfl,?_,?_⟩
   ·rw [List.all_eq_true]
    intro e he
    obtain ⟨x,hx,rfl⟩:=List.mem_map.1 he
    have:=h8 x hx
    show (decide (0<=x)&&decide (x<256))=true
    simp [this.1,this.2]
   ·rw [x27q];omega
  |false =>
   have hex:∃ r:List (List C),(r.all bytC=true/\r.length<=4000000)/\CallOk Tryz.prog 82 [.c (.sl (qcy.encL xs))] (.c (.sl r),[]):=by
    refine ⟨encB8 (bodL sqF xs),⟨?_,?_⟩,bod_ok sqF sqF_le (λs h=>q182 s h) xs h8 hn⟩
    ·rw [List.all_eq_true]
     intro e he
     obtain ⟨x,hx,rfl⟩:=List.mem_map.1 he
     have:=x.toNat_lt
     show (decide ((0:Int)<=(x.toNat:Int))&&decide ((x.toNat:Int)<256))=true
     simp
     omega
    ·rw [encB8,List.length_map]
     have:=q7w sqF_le (xs.length+1) xs ([],0)
     have e:(bodL sqF xs).length=(bodF sqF (xs.length+1) xs ([],0)).1.length:=rfl
     simp only [x8q] at this
     omega
   refine ⟨Classical.choose hex,?_,(Classical.choose_spec hex).1⟩
   show bodG _=_
   unfold bodG
   rw [dif_pos hex]
 unfold bodS
 refine qu6 key λr hr=>?_
 have hi:qcy.isL r=true:=by
  rw [EC.isL,List.all_eq_true]
  intro e he
  have:=List.all_eq_true.1 hr.1 e he
  unfold bytC at this
  split at this
  ·rfl
  ·cases this
 rw [if_pos hi]
 exact qua (by rw [EC.decL,List.length_map];exact hr.2)
theorem qo6:∀ (l:List (List UInt8)) (sep:List UInt8),(∀ x∈l,x.length<=60)->sep.length=1->(sep.intercalate l).length<=l.length*61
 |[],_,_,_=>by simp [List.intercalate]
 |[x],sep,h,hs=>by
  have:=h x (by simp)
  simp [List.intercalate]
  omega
 |x::y::l,sep,h,hs=>by
  have h1:=qo6 (y::l) sep (λz hz=>h z (List.mem_cons_of_mem _ hz)) hs
  have h2:=h x (by simp)
  have e:(sep.intercalate (x::y::l))=x++sep++sep.intercalate (y::l):=by simp [List.intercalate,List.intersperse]
  rw [e]
  simp only [x12q,x9q] at h1 ⊢
  omega
theorem qp6 (l:List BA) (sep:BA) (hl:l.length<=20) (h:∀ s∈l,s.size<=60) (hs:sep.size=1):Ok (joinP l sep) λr=>r.size<=2000:=by
 have h1:=qo6 (l.map (·.data.toList)) sep.data.toList (λx hx=>by
  obtain ⟨s,hs,rfl⟩:=List.mem_map.1 hx
  have:=h s hs
  rw [x24q]
  exact this) (by rw [x24q];exact hs)
 rw [List.length_map] at h1
 unfold joinP
 rw [if_pos ⟨by unfold Lib.join;omega,by omega⟩]
 refine qua ?_
 show (List.toArray _).size<=_
 rw [List.size_toArray]
 unfold Lib.join
 omega
end Go.Proofs.YtmlcmoaonaomfaaGreatDoor
