/- Functions of the program as plain functions: made by program from the machine. -/
import Derived.Test.YtokahibbkdbndaaGreatDoorH3
namespace Go.Proofs.YtokahibbkdbndaaGreatDoor
open Go.RowKit
set_option maxRecDepth 100000
noncomputable section
abbrev z4b:=(vC (cInt .i64))
def q182:=(qrf z4b)
def q183:Cod (V×List B) Bool:=(cFstU (cPair (vC cBool) qre))
def q186 (act:Int):=fS Tryz.prog lv X0 109 q182 q183 act
def q187 (act:Int):Oq Bool :=
 (brE ((act==2)==false)
 (brE ((act==4)==false)
 (brE ((act==5)==false)
 (some (act==7))
 (some true))
 (some true))
 (some true))
theorem q185 {act r} (h:q187 act=some r):q186 act=some r :=
 qjn (es:=q1k4) (hs:=qpl) [] Tryz.func109 rfl (by kernel_rfl) rfl (by kernel_rfl) (by kernel_rfl) trivial trivial (by kernel_rfl) h
def q184:=entS Tryz.prog lv X0 109 [] q182 q183 (fun x=>q186 x) (fun _ _ h=>qjm h)
def q1jv:=q184::q1k4
def q19k:=(qrf z4b)
abbrev z4d:=(qrf (vC cBool))
abbrev z4g:=(qrd (vC cBool) (qrd (vC cBool) z4d))
def q19l:Cod (V×List B) (Bool×Bool×Bool×Bool):=(cFstU (cPair (vTup (qrd (vC cBool) z4g)) qre))
def q19o (kind:Int):=fS Tryz.prog lv X0 138 q19k q19l kind
def q19p (kind:Int):Oq (Bool×Bool×Bool×Bool) :=
 ((qz4 kind 2 4).bind fun r0 =>
 (brE ((kind==5)==false)
 ((qz4 kind 5 7).bind fun r1 =>
 (some (r0,((kind==9),(r1,(kind==8))))))
 ((qz4 kind 5 7).bind fun r1 =>
 (some (r0,(true,(r1,(kind==8))))))))
theorem q19n {kind r} (h:q19p kind=some r):q19o kind=some r :=
 qjn (es:=q1jv) (hs:=qpl) [] Tryz.func138 rfl (by kernel_rfl) rfl (by kernel_rfl) (by kernel_rfl) trivial trivial (by kernel_rfl) h
def q19m:=entS Tryz.prog lv X0 138 [] q19k q19l (fun x=>q19o x) (fun _ _ h=>qjm h)
def q1k0:=q19m::q1jv
def q1n9:=(qrf z4b)
def q1na:Cod (V×List B) Bool:=(cFstU (cPair (vC cBool) qre))
def q1nd (kind:Int):=fS Tryz.prog lv X0 19 q1n9 q1na kind
def q1ne (kind:Int):Oq Bool :=
 (brE ((kind != 6)==true)
 (some (kind != 7))
 (some false))
theorem q1nc {kind r} (h:q1ne kind=some r):q1nd kind=some r :=
 qjn (es:=q1k0) (hs:=qpl) [] Tryz.func19 rfl (by kernel_rfl) rfl (by kernel_rfl) (by kernel_rfl) trivial trivial (by kernel_rfl) h
def q1nb:=entS Tryz.prog lv X0 19 [] q1n9 q1na (fun x=>q1nd x) (fun _ _ h=>qjm h)
def q1nz:=q1nb::q1k0
def q18m:=(qrf (vC cStr))
def q18w:=sLS [0,3] (qrd (vC cStr) (qrf z4b)) qre [] [] (by decide) (fun _=>rfl)
def q18v:=sLS [0,3,8] (qrd (vC cStr) (qrd z4b z4d)) qre [] [] (by decide) (fun _=>rfl)
def q18u:=sLS [2] z4d qre [] [] (by decide) (fun _=>rfl)
def q18t:=oOr 1 q18u (oAt 2 q18v) (fun x=>(by decide:(2:Nat)≠1))
def q18q (s:BA) (i:Int):=lS Tryz.prog lv X0 110 30 (qnb (cdF Tryz.f110) 2) q18w q18t ((s,i),())
def q18x (s:BA) (i:Int):Oq ((Bool×Unit)⊕((BA×Int×Bool)×Unit)) :=
 (brE (decide (i<(s.size:Int)))
 (gdE ((p0 i)&&(decide ((Int.toNat i)<s.size)))<|
 (Option.bind (qz4 (IntKind.wrap .i64 (((UInt8.toNat (Array.getD s.data (Int.toNat i) (0:UInt8))):Nat):Int)) 97 122) fun r0 =>
 (brE ((!r0)==true)
 (brE ((decide (i>0))==true)
 (Option.bind (qz4 (IntKind.wrap .i64 (((UInt8.toNat (Array.getD s.data (Int.toNat i) (0:UInt8))):Nat):Int)) 48 57) fun r1 =>
 (brE (!r1)
 (some (.inl (false,())))
 (q18q s (wI i))))
 (some (.inl (false,()))))
 (q18q s (wI i)))))
 (some (.inr ((s,(i,false)),()))))
theorem q18s {s i r} (h:q18x s i=some r):q18q s i=some r :=
 qrh (es:=q1nz) (hs:=qpl) [] (by kernel_rfl) trivial trivial (by kernel_rfl) h
def q18r:=qs5 Tryz.prog lv X0 2 (qnb (cdF Tryz.f110) 2) q18w q18t (fun x=>q18q x.1.1 x.1.2) (fun _ _ h=>qrg h)
def q18n:Cod (V×List B) Bool:=(cFstU (cPair (vC cBool) qre))
def q18y (s:BA):=fS Tryz.prog lv X0 110 q18m q18n s
def q18z (s:BA):Oq Bool :=
 ((q18q s 0).bind fun r0 =>
 (Sum.elim (fun r1=>(some r1.1))
 (fun r1=>((qz4 ((r1.1.1.size:Nat):Int) 1 60).bind fun r2 =>
 (some r2))) r0))
theorem q18p {s r} (h:q18z s=some r):q18y s=some r :=
 qjn (es:=q1nz) (hs:=qpl) [q18r] Tryz.func110 rfl (by kernel_rfl) rfl (by kernel_rfl) (by kernel_rfl) ⟨⟨_,rfl,rfl⟩,trivial⟩ trivial (by kernel_rfl) h
def q18o:=entS Tryz.prog lv X0 110 [] q18m q18n (fun x=>q18y x) (fun _ _ h=>qjm h)
def q1jx:=q18o::q1nz
def q15i:=(qrd (vAgg (qrd z4b (qrd (vC (cSl qaz)) (qrd (vC cStr) (qrd z4b (qrd (vC cStr) (qrf z4b))))))) (qrf z4b))
def q15j:Cod (V×List B) Int:=(cFstU (cPair z4b qre))
def q177 (q1hv:Int) (q1hy:L48) (q1hw:BA) (q1hx:Int) (q1hz:BA) (t_N depth:Int):=fS Tryz.prog lv X0 108 q15i q15j ((q1hv,q1hy,q1hw,q1hx,q1hz,t_N),depth)
def q15k:=entS Tryz.prog lv X0 108 [] q15i q15j (fun x=>q177 x.1.1 x.1.2.1 x.1.2.2.1 x.1.2.2.2.1 x.1.2.2.2.2.1 x.1.2.2.2.2.2 x.2) (fun _ _ h=>qjm h)
def q1jt:=q15k::q1jx
abbrev z4a:=(qrf (qv4 (bBox (qrd (vC (cInt .i64)) (qrd (vC (cSl qaz)) (qrd (vC cStr) (qrd (vC (cInt .i64)) (qrd (vC cStr) (qrf (vC (cInt .i64)))))))))))
def q175:=sLS [1,2,9] (qrd z4b (qrd (vPtr 0 0) (qrf z4b))) z4a [false] [] (by decide) (fun _=>rfl)
def q174:=sLS [1,2,9,120] (qrd z4b (qrd (vPtr 0 0) (qrd z4b z4d))) z4a [false] [] (by decide) (fun _=>rfl)
def q173:=sLS [4] (qrf z4b) qre [] [] (by decide) (fun _=>rfl)
def q172:=oOr 1 q173 (oAt 2 q174) (fun x=>(by decide:(2:Nat)≠1))
def q16z (depth i b0:Int) (b0_1:L48) (b0_2:BA) (b0_3:Int) (b0_4:BA) (b0_5:Int):=lS Tryz.prog lv X0 108 134 (qnb (cdF Tryz.f108) 19) q175 q172 ((depth,(),i),(b0,b0_1,b0_2,b0_3,b0_4,b0_5))
abbrev z23 (i:Int) (b0_1:L48):=(List.getD (EC.encL qaz b0_1) (Int.toNat i) [])
def q176 (depth i b0:Int) (b0_1:L48) (b0_2:BA) (b0_3:Int) (b0_4:BA) (b0_5:Int):Oq ((Int×Unit)⊕((Int×Unit×Int×Bool)×(Int×L48×BA×Int×BA×Int))) :=
 (brE (decide (i<(lN qaz b0_1:Int)))
 (gdE (p0 i)<|
 (gdE (eC qaz b0_1 i [(K1.int Go.IntKind.i64),K1.sl,K1.str,(K1.int Go.IntKind.i64),K1.str,(K1.int Go.IntKind.i64)])<|
 (gdE (EC.isL qaz (slOf (List.getD (z23 i b0_1) 1 C.ne)))<|
 ((q177 (qqd (List.getD (z23 i b0_1) 0 C.ne)) (uL qaz (List.getD (z23 i b0_1) 1 C.ne)) (q1gu (List.getD (z23 i b0_1) 2 C.ne)) (qqd (List.getD (z23 i b0_1) 3 C.ne)) (q1gu (List.getD (z23 i b0_1) 4 C.ne)) (qqd (List.getD (z23 i b0_1) 5 C.ne)) (wI depth)).bind fun r0 =>
 (brE (r0 != 0)
 (some (.inl (r0,())))
 (gL qaz b0_1<|
 (q16z depth (wI i) b0 (dL qaz b0_1) b0_2 b0_3 b0_4 b0_5)))))))
 (gL qaz b0_1<|
 (some (.inr ((depth,((),(i,false))),(b0,((dL qaz b0_1),(b0_2,(b0_3,(b0_4,b0_5))))))))))
theorem q171 {depth i b0 b0_1 b0_2 b0_3 b0_4 b0_5 r} (h:q176 depth i b0 b0_1 b0_2 b0_3 b0_4 b0_5=some r):q16z depth i b0 b0_1 b0_2 b0_3 b0_4 b0_5=some r :=
 qrh (es:=q1jt) (hs:=qpl) [] (by kernel_rfl) trivial trivial (by kernel_rfl) h
def q170:=qs5 Tryz.prog lv X0 19 (qnb (cdF Tryz.f108) 19) q175 q172 (fun x=>q16z x.1.1 x.1.2.2 x.2.1 x.2.2.1 x.2.2.2.1 x.2.2.2.2.1 x.2.2.2.2.2.1 x.2.2.2.2.2.2) (fun _ _ h=>qrg h)
abbrev z4e:=(qrf (vPtr 0 0))
def q16j:=sLS [1,2] (qrd z4b z4e) z4a [false] [] (by decide) (fun _=>rfl)
def q16i:=sLS [4] (qrf z4b) qre [] [] (by decide) (fun _=>rfl)
def q16h:=oAt 1 q16i
def q16e (depth b0:Int) (b0_1:L48) (b0_2:BA) (b0_3:Int) (b0_4:BA) (b0_5:Int):=gS Tryz.prog lv X0 108 134 (qni (cdF Tryz.f108) 18) q16j q16h ((depth,()),(b0,b0_1,b0_2,b0_3,b0_4,b0_5))
def q16k (depth b0:Int) (b0_1:L48) (b0_2:BA) (b0_3:Int) (b0_4:BA) (b0_5:Int):Oq (Int×Unit) :=
 (gL qaz b0_1<|
 ((q16z depth 0 b0 (dL qaz b0_1) b0_2 b0_3 b0_4 b0_5).bind fun r0 =>
 (Sum.elim (fun r1=>(some (r1.1,())))
 (fun r1=>(some (0,()))) r0)))
theorem q16g {depth b0 b0_1 b0_2 b0_3 b0_4 b0_5 r} (h:q16k depth b0 b0_1 b0_2 b0_3 b0_4 b0_5=some r):q16e depth b0 b0_1 b0_2 b0_3 b0_4 b0_5=some r :=
 qn5 (es:=q1jt) (hs:=qpl) [q170] (by kernel_rfl) ⟨⟨_,rfl,rfl⟩,trivial⟩ trivial (by kernel_rfl) h
def q16f:=gentS Tryz.prog lv X0 18 (qni (cdF Tryz.f108) 18) (by kernel_rfl) q16j q16h (fun x=>q16e x.1.1 x.2.1 x.2.2.1 x.2.2.2.1 x.2.2.2.2.1 x.2.2.2.2.2.1 x.2.2.2.2.2.2) (fun _ _ h=>qn4 h)
def q16c:=sLS [1,2] (qrd z4b z4e) z4a [false] [] (by decide) (fun _=>rfl)
def q16b:=sLS [4] (qrf z4b) qre [] [] (by decide) (fun _=>rfl)
def q16a:=oAt 1 q16b
def q167 (depth b0:Int) (b0_1:L48) (b0_2:BA) (b0_3:Int) (b0_4:BA) (b0_5:Int):=gS Tryz.prog lv X0 108 134 (qni (cdF Tryz.f108) 16) q16c q16a ((depth,()),(b0,b0_1,b0_2,b0_3,b0_4,b0_5))
def q16d (depth b0:Int) (b0_1:L48) (b0_2:BA) (b0_3:Int) (b0_4:BA) (b0_5:Int):Oq (Int×Unit) :=
 ((qz4 b0_5 0 1000000).bind fun r0 =>
 (brE (!r0)
 (some (3,()))
 (gL qaz b0_1<|
 ((q16e depth b0 (dL qaz b0_1) b0_2 b0_3 b0_4 b0_5).bind fun r1 =>
 (some (r1.1,()))))))
theorem q169 {depth b0 b0_1 b0_2 b0_3 b0_4 b0_5 r} (h:q16d depth b0 b0_1 b0_2 b0_3 b0_4 b0_5=some r):q167 depth b0 b0_1 b0_2 b0_3 b0_4 b0_5=some r :=
 qn5 (es:=q1jt) (hs:=qpl) [q16f] (by kernel_rfl) trivial ⟨⟨_,rfl,rfl⟩,trivial⟩ (by kernel_rfl) h
def q168:=gentS Tryz.prog lv X0 16 (qni (cdF Tryz.f108) 16) (by kernel_rfl) q16c q16a (fun x=>q167 x.1.1 x.2.1 x.2.2.1 x.2.2.2.1 x.2.2.2.2.1 x.2.2.2.2.2.1 x.2.2.2.2.2.2) (fun _ _ h=>qn4 h)
def q165:=sLS [1,2] (qrd z4b z4e) z4a [false] [] (by decide) (fun _=>rfl)
def q164:=sLS [4] (qrf z4b) qre [] [] (by decide) (fun _=>rfl)
def q163:=oAt 1 q164
def q160 (depth b0:Int) (b0_1:L48) (b0_2:BA) (b0_3:Int) (b0_4:BA) (b0_5:Int):=gS Tryz.prog lv X0 108 134 (qni (cdF Tryz.f108) 14) q165 q163 ((depth,()),(b0,b0_1,b0_2,b0_3,b0_4,b0_5))
def q166 (depth b0:Int) (b0_1:L48) (b0_2:BA) (b0_3:Int) (b0_4:BA) (b0_5:Int):Oq (Int×Unit) :=
 (brE (decide ((b0_4.size:Int)>200))
 (some (1,()))
 (gL qaz b0_1<|
 ((q167 depth b0 (dL qaz b0_1) b0_2 b0_3 b0_4 b0_5).bind fun r0 =>
 (some (r0.1,())))))
theorem q162 {depth b0 b0_1 b0_2 b0_3 b0_4 b0_5 r} (h:q166 depth b0 b0_1 b0_2 b0_3 b0_4 b0_5=some r):q160 depth b0 b0_1 b0_2 b0_3 b0_4 b0_5=some r :=
 qn5 (es:=q1jt) (hs:=qpl) [q168] (by kernel_rfl) trivial ⟨⟨_,rfl,rfl⟩,trivial⟩ (by kernel_rfl) h
def q161:=gentS Tryz.prog lv X0 14 (qni (cdF Tryz.f108) 14) (by kernel_rfl) q165 q163 (fun x=>q160 x.1.1 x.2.1 x.2.2.1 x.2.2.2.1 x.2.2.2.2.1 x.2.2.2.2.2.1 x.2.2.2.2.2.2) (fun _ _ h=>qn4 h)
def q15y:=sLS [1,2,7] (qrd z4b (qrd (vPtr 0 0) z4d)) z4a [false] [] (by decide) (fun _=>rfl)
def q15x:=sLS [4] (qrf z4b) qre [] [] (by decide) (fun _=>rfl)
def q15w:=oAt 1 q15x
def q15t (depth:Int) (text:Bool) (b0:Int) (b0_1:L48) (b0_2:BA) (b0_3:Int) (b0_4:BA) (b0_5:Int):=gS Tryz.prog lv X0 108 134 (qni (cdF Tryz.f108) 12) q15y q15w ((depth,(),text),(b0,b0_1,b0_2,b0_3,b0_4,b0_5))
def q15z (depth:Int) (text:Bool) (b0:Int) (b0_1:L48) (b0_2:BA) (b0_3:Int) (b0_4:BA) (b0_5:Int):Oq (Int×Unit) :=
 (brE (text==true)
 ((qz4 b0_3 1 3).bind fun r0 =>
 (brE (!r0)
 (some (4,()))
 (gL qaz b0_1<|
 ((q160 depth b0 (dL qaz b0_1) b0_2 b0_3 b0_4 b0_5).bind fun r1 =>
 (some (r1.1,()))))))
 (gL qaz b0_1<|
 ((q160 depth b0 (dL qaz b0_1) b0_2 b0_3 b0_4 b0_5).bind fun r0 =>
 (some (r0.1,())))))
theorem q15v {depth text b0 b0_1 b0_2 b0_3 b0_4 b0_5 r} (h:q15z depth text b0 b0_1 b0_2 b0_3 b0_4 b0_5=some r):q15t depth text b0 b0_1 b0_2 b0_3 b0_4 b0_5=some r :=
 qn5 (es:=q1jt) (hs:=qpl) [q161] (by kernel_rfl) trivial ⟨⟨_,rfl,rfl⟩,trivial⟩ (by kernel_rfl) h
def q15u:=gentS Tryz.prog lv X0 12 (qni (cdF Tryz.f108) 12) (by kernel_rfl) q15y q15w (fun x=>q15t x.1.1 x.1.2.2 x.2.1 x.2.2.1 x.2.2.2.1 x.2.2.2.2.1 x.2.2.2.2.2.1 x.2.2.2.2.2.2) (fun _ _ h=>qn4 h)
def q15r:=sLS [1,2,6,7] (qrd z4b (qrd (vPtr 0 0) (qrd (vC cBool) z4d))) z4a [false] [] (by decide) (fun _=>rfl)
def q15q:=sLS [4] (qrf z4b) qre [] [] (by decide) (fun _=>rfl)
def q15p:=oAt 1 q15q
def q15m (depth:Int) (name text:Bool) (b0:Int) (b0_1:L48) (b0_2:BA) (b0_3:Int) (b0_4:BA) (b0_5:Int):=gS Tryz.prog lv X0 108 134 (qni (cdF Tryz.f108) 10) q15r q15p ((depth,(),name,text),(b0,b0_1,b0_2,b0_3,b0_4,b0_5))
def q15s (depth:Int) (name text:Bool) (b0:Int) (b0_1:L48) (b0_2:BA) (b0_3:Int) (b0_4:BA) (b0_5:Int):Oq (Int×Unit) :=
 (brE (name==true)
 ((qz4 (b0_2.size:Int) 1 60).bind fun r0 =>
 (brE (!r0)
 (some (10,()))
 (gL qaz b0_1<|
 ((q15t depth text b0 (dL qaz b0_1) b0_2 b0_3 b0_4 b0_5).bind fun r1 =>
 (some (r1.1,()))))))
 (gL qaz b0_1<|
 ((q15t depth text b0 (dL qaz b0_1) b0_2 b0_3 b0_4 b0_5).bind fun r0 =>
 (some (r0.1,())))))
theorem q15o {depth name text b0 b0_1 b0_2 b0_3 b0_4 b0_5 r} (h:q15s depth name text b0 b0_1 b0_2 b0_3 b0_4 b0_5=some r):q15m depth name text b0 b0_1 b0_2 b0_3 b0_4 b0_5=some r :=
 qn5 (es:=q1jt) (hs:=qpl) [q15u] (by kernel_rfl) trivial ⟨⟨_,rfl,rfl⟩,trivial⟩ (by kernel_rfl) h
def q15n:=gentS Tryz.prog lv X0 10 (qni (cdF Tryz.f108) 10) (by kernel_rfl) q15r q15p (fun x=>q15m x.1.1 x.1.2.2.1 x.1.2.2.2 x.2.1 x.2.2.1 x.2.2.2.1 x.2.2.2.2.1 x.2.2.2.2.2.1 x.2.2.2.2.2.2) (fun _ _ h=>qn4 h)
def q16x:=sLS [1,2,6,7,8] (qrd z4b (qrd (vPtr 0 0) z4g)) z4a [false] [] (by decide) (fun _=>rfl)
def q16w:=sLS [4] (qrf z4b) qre [] [] (by decide) (fun _=>rfl)
def q16v:=oAt 1 q16w
def q16s (depth:Int) (name text number:Bool) (b0:Int) (b0_1:L48) (b0_2:BA) (b0_3:Int) (b0_4:BA) (b0_5:Int):=gS Tryz.prog lv X0 108 134 (qni (cdF Tryz.f108) 8) q16x q16v ((depth,(),name,text,number),(b0,b0_1,b0_2,b0_3,b0_4,b0_5))
abbrev z24 (depth:Int) (name text:Bool) (b0:Int) (b0_1:L48) (b0_2:BA) (b0_3:Int) (b0_4:BA) (b0_5:Int):=(q15m depth name text b0 (dL qaz b0_1) b0_2 b0_3 b0_4 b0_5)
def q16y (depth:Int) (name text number:Bool) (b0:Int) (b0_1:L48) (b0_2:BA) (b0_3:Int) (b0_4:BA) (b0_5:Int):Oq (Int×Unit) :=
 (brE ((!name)==true)
 (brE ((!(b0_2.toList==(ByteArray.toList ⟨#[]⟩)))==false)
 (brE ((!text)==true)
 (brE ((!(b0_4.toList==(ByteArray.toList ⟨#[]⟩)))==false)
 (brE ((!text)==true)
 (brE ((b0_3 != 0)==false)
 (brE ((!number)==true)
 (brE (b0_5 != 0)
 (some (5,()))
 (gL qaz b0_1<|
 ((z24 depth name text b0 b0_1 b0_2 b0_3 b0_4 b0_5).bind fun r0 =>
 (some (r0.1,())))))
 (gL qaz b0_1<|
 ((z24 depth name text b0 b0_1 b0_2 b0_3 b0_4 b0_5).bind fun r0 =>
 (some (r0.1,())))))
 (some (5,())))
 (brE ((!number)==true)
 (brE (b0_5 != 0)
 (some (5,()))
 (gL qaz b0_1<|
 ((z24 depth name text b0 b0_1 b0_2 b0_3 b0_4 b0_5).bind fun r0 =>
 (some (r0.1,())))))
 (gL qaz b0_1<|
 ((z24 depth name text b0 b0_1 b0_2 b0_3 b0_4 b0_5).bind fun r0 =>
 (some (r0.1,()))))))
 (some (5,())))
 (brE ((!text)==true)
 (brE ((b0_3 != 0)==false)
 (brE ((!number)==true)
 (brE (b0_5 != 0)
 (some (5,()))
 (gL qaz b0_1<|
 ((z24 depth name text b0 b0_1 b0_2 b0_3 b0_4 b0_5).bind fun r0 =>
 (some (r0.1,())))))
 (gL qaz b0_1<|
 ((z24 depth name text b0 b0_1 b0_2 b0_3 b0_4 b0_5).bind fun r0 =>
 (some (r0.1,())))))
 (some (5,())))
 (brE ((!number)==true)
 (brE (b0_5 != 0)
 (some (5,()))
 (gL qaz b0_1<|
 ((z24 depth name text b0 b0_1 b0_2 b0_3 b0_4 b0_5).bind fun r0 =>
 (some (r0.1,())))))
 (gL qaz b0_1<|
 ((z24 depth name text b0 b0_1 b0_2 b0_3 b0_4 b0_5).bind fun r0 =>
 (some (r0.1,())))))))
 (some (5,())))
 (brE ((!text)==true)
 (brE ((!(b0_4.toList==(ByteArray.toList ⟨#[]⟩)))==false)
 (brE ((!text)==true)
 (brE ((b0_3 != 0)==false)
 (brE ((!number)==true)
 (brE (b0_5 != 0)
 (some (5,()))
 (gL qaz b0_1<|
 ((z24 depth name text b0 b0_1 b0_2 b0_3 b0_4 b0_5).bind fun r0 =>
 (some (r0.1,())))))
 (gL qaz b0_1<|
 ((z24 depth name text b0 b0_1 b0_2 b0_3 b0_4 b0_5).bind fun r0 =>
 (some (r0.1,())))))
 (some (5,())))
 (brE ((!number)==true)
 (brE (b0_5 != 0)
 (some (5,()))
 (gL qaz b0_1<|
 ((z24 depth name text b0 b0_1 b0_2 b0_3 b0_4 b0_5).bind fun r0 =>
 (some (r0.1,())))))
 (gL qaz b0_1<|
 ((z24 depth name text b0 b0_1 b0_2 b0_3 b0_4 b0_5).bind fun r0 =>
 (some (r0.1,()))))))
 (some (5,())))
 (brE ((!text)==true)
 (brE ((b0_3 != 0)==false)
 (brE ((!number)==true)
 (brE (b0_5 != 0)
 (some (5,()))
 (gL qaz b0_1<|
 ((z24 depth name text b0 b0_1 b0_2 b0_3 b0_4 b0_5).bind fun r0 =>
 (some (r0.1,())))))
 (gL qaz b0_1<|
 ((z24 depth name text b0 b0_1 b0_2 b0_3 b0_4 b0_5).bind fun r0 =>
 (some (r0.1,())))))
 (some (5,())))
 (brE ((!number)==true)
 (brE (b0_5 != 0)
 (some (5,()))
 (gL qaz b0_1<|
 ((z24 depth name text b0 b0_1 b0_2 b0_3 b0_4 b0_5).bind fun r0 =>
 (some (r0.1,())))))
 (gL qaz b0_1<|
 ((z24 depth name text b0 b0_1 b0_2 b0_3 b0_4 b0_5).bind fun r0 =>
 (some (r0.1,()))))))))
theorem q16u {depth name text number b0 b0_1 b0_2 b0_3 b0_4 b0_5 r} (h:q16y depth name text number b0 b0_1 b0_2 b0_3 b0_4 b0_5=some r):q16s depth name text number b0 b0_1 b0_2 b0_3 b0_4 b0_5=some r :=
 qn5 (es:=q1jt) (hs:=qpl) [q15n] (by kernel_rfl) trivial ⟨⟨_,rfl,rfl⟩,trivial⟩ (by kernel_rfl) h
def q16t:=gentS Tryz.prog lv X0 8 (qni (cdF Tryz.f108) 8) (by kernel_rfl) q16x q16v (fun x=>q16s x.1.1 x.1.2.2.1 x.1.2.2.2.1 x.1.2.2.2.2 x.2.1 x.2.2.1 x.2.2.2.1 x.2.2.2.2.1 x.2.2.2.2.2.1 x.2.2.2.2.2.2) (fun _ _ h=>qn4 h)
def q16q:=sLS [1,2,5,6,7,8] (qrd z4b (qrd (vPtr 0 0) (qrd (vC cBool) z4g))) z4a [false] [] (by decide) (fun _=>rfl)
def q16p:=sLS [4] (qrf z4b) qre [] [] (by decide) (fun _=>rfl)
def q16o:=oAt 1 q16p
def q16l (depth:Int) (tests name:Bool) (text number:Bool) (b0:Int) (b0_1:L48) (b0_2:BA) (b0_3:Int) (b0_4:BA) (b0_5:Int):=gS Tryz.prog lv X0 108 134 (qni (cdF Tryz.f108) 6) q16q q16o ((depth,(),tests,name,text,number),(b0,b0_1,b0_2,b0_3,b0_4,b0_5))
abbrev z25 (b0_1:L48):=(decide ((lN qaz b0_1:Int)>60))
def q16r (depth:Int) (tests name:Bool) (text number:Bool) (b0:Int) (b0_1:L48) (b0_2:BA) (b0_3:Int) (b0_4:BA) (b0_5:Int):Oq (Int×Unit) :=
 (brE (tests==true)
 (brE (((lN qaz b0_1:Int)==0)==false)
 (brE ((!tests)==true)
 (brE ((decide ((lN qaz b0_1:Int)>0))==false)
 (brE ((b0==2)==true)
 (brE ((decide ((lN qaz b0_1:Int)>1))==false)
 (brE (z25 b0_1)
 (some (5,()))
 (gL qaz b0_1<|
 ((q16s depth name text number b0 (dL qaz b0_1) b0_2 b0_3 b0_4 b0_5).bind fun r0 =>
 (some (r0.1,())))))
 (some (5,())))
 (brE (z25 b0_1)
 (some (5,()))
 (gL qaz b0_1<|
 ((q16s depth name text number b0 (dL qaz b0_1) b0_2 b0_3 b0_4 b0_5).bind fun r0 =>
 (some (r0.1,()))))))
 (some (5,())))
 (brE ((b0==2)==true)
 (brE ((decide ((lN qaz b0_1:Int)>1))==false)
 (brE (z25 b0_1)
 (some (5,()))
 (gL qaz b0_1<|
 ((q16s depth name text number b0 (dL qaz b0_1) b0_2 b0_3 b0_4 b0_5).bind fun r0 =>
 (some (r0.1,())))))
 (some (5,())))
 (brE (z25 b0_1)
 (some (5,()))
 (gL qaz b0_1<|
 ((q16s depth name text number b0 (dL qaz b0_1) b0_2 b0_3 b0_4 b0_5).bind fun r0 =>
 (some (r0.1,())))))))
 (some (5,())))
 (brE ((!tests)==true)
 (brE ((decide ((lN qaz b0_1:Int)>0))==false)
 (brE ((b0==2)==true)
 (brE ((decide ((lN qaz b0_1:Int)>1))==false)
 (brE (z25 b0_1)
 (some (5,()))
 (gL qaz b0_1<|
 ((q16s depth name text number b0 (dL qaz b0_1) b0_2 b0_3 b0_4 b0_5).bind fun r0 =>
 (some (r0.1,())))))
 (some (5,())))
 (brE (z25 b0_1)
 (some (5,()))
 (gL qaz b0_1<|
 ((q16s depth name text number b0 (dL qaz b0_1) b0_2 b0_3 b0_4 b0_5).bind fun r0 =>
 (some (r0.1,()))))))
 (some (5,())))
 (brE ((b0==2)==true)
 (brE ((decide ((lN qaz b0_1:Int)>1))==false)
 (brE (z25 b0_1)
 (some (5,()))
 (gL qaz b0_1<|
 ((q16s depth name text number b0 (dL qaz b0_1) b0_2 b0_3 b0_4 b0_5).bind fun r0 =>
 (some (r0.1,())))))
 (some (5,())))
 (brE (z25 b0_1)
 (some (5,()))
 (gL qaz b0_1<|
 ((q16s depth name text number b0 (dL qaz b0_1) b0_2 b0_3 b0_4 b0_5).bind fun r0 =>
 (some (r0.1,()))))))))
theorem q16n {depth tests name text number b0 b0_1 b0_2 b0_3 b0_4 b0_5 r} (h:q16r depth tests name text number b0 b0_1 b0_2 b0_3 b0_4 b0_5=some r):q16l depth tests name text number b0 b0_1 b0_2 b0_3 b0_4 b0_5=some r :=
 qn5 (es:=q1jt) (hs:=qpl) [q16t] (by kernel_rfl) trivial ⟨⟨_,rfl,rfl⟩,trivial⟩ (by kernel_rfl) h
def q16m:=gentS Tryz.prog lv X0 6 (qni (cdF Tryz.f108) 6) (by kernel_rfl) q16q q16o (fun x=>q16l x.1.1 x.1.2.2.1 x.1.2.2.2.1 x.1.2.2.2.2.1 x.1.2.2.2.2.2 x.2.1 x.2.2.1 x.2.2.2.1 x.2.2.2.2.1 x.2.2.2.2.2.1 x.2.2.2.2.2.2) (fun _ _ h=>qn4 h)
def q178 (q1hv:Int) (q1hy:L48) (q1hw:BA) (q1hx:Int) (q1hz:BA) (t_N depth:Int):Oq Int :=
 (brE (decide (depth>8))
 (some 5)
 ((qz4 q1hv 1 9).bind fun r0 =>
 (brE (!r0)
 (some 4)
 ((q19o q1hv).bind fun r1 =>
 (gL qaz q1hy<|
 ((q16l depth r1.1 r1.2.1 r1.2.2.1 r1.2.2.2 q1hv (dL qaz q1hy) q1hw q1hx q1hz t_N).bind fun r2 =>
 (some r2.1)))))))
theorem q15l {q1hv q1hy q1hw q1hx q1hz t_N depth r} (h:q178 q1hv q1hy q1hw q1hx q1hz t_N depth=some r):q177 q1hv q1hy q1hw q1hx q1hz t_N depth=some r :=
 qjn (es:=q1jt) (hs:=qpl) [q16m] Tryz.func108 rfl (by kernel_rfl) rfl (by kernel_rfl) (by kernel_rfl) trivial ⟨⟨_,rfl,rfl⟩,trivial⟩ (by kernel_rfl) h
abbrev z49:=(qrd (vC (cInt .i64)) (qrd (vC (cInt .i64)) (qrd (vC (cSl qaz)) (qrd (vC cStr) (qrd (vC (cInt .i64)) (qrd (vC cStr) (qrd (vC (cInt .i64)) (qrd (vC (cSl qb1)) (qrd (vC (cSl qb1)) (qrd (vC (cInt .i64)) (qrd (vC cStr) (qrd (vC cStr) (qrf (vC (cInt .i64)))))))))))))))
def q12g:=(qrf (vAgg z49))
abbrev z4c:=(qrf (qv4 (bBox z49)))
def q134:=sLS [1] z4e z4c [false] [] (by decide) (fun _=>rfl)
def q133:=sLS [2] (qrf z4b) qre [] [] (by decide) (fun _=>rfl)
def q132:=sLS [1,133] (qrd (vPtr 0 0) z4d) z4c [false] [] (by decide) (fun _=>rfl)
def q131:=oOr 0 q132 (oAt 1 q133) (fun x=>(by decide:(1:Nat)≠0))
def q12y (b0 b0_1:Int) (b0_2:L48) (b0_3:BA) (b0_4:Int) (b0_5:BA) (b0_6:Int) (b0_7 b0_8:L50) (b0_9:Int) (b0_10 b0_11:BA) (b0_12:Int):=gS Tryz.prog lv X0 82 151 (qni (cdF Tryz.f82) 15) q134 q131 ((),(b0,b0_1,b0_2,b0_3,b0_4,b0_5,b0_6,b0_7,b0_8,b0_9,b0_10,b0_11,b0_12))
def q135 (b0 b0_1:Int) (b0_2:L48) (b0_3:BA) (b0_4:Int) (b0_5:BA) (b0_6:Int) (b0_7 b0_8:L50) (b0_9:Int) (b0_10 b0_11:BA) (b0_12:Int):Oq (((Unit×Bool)×(Int×Int×L48×BA×Int×BA×Int×L50×L50×Int×BA×BA×Int))⊕(Int×Unit)) :=
 ((q186 b0_9).bind fun r0 =>
 (brE ((!r0)==true)
 (brE ((!(b0_11.toList==(ByteArray.toList ⟨#[]⟩)))==false)
 (brE ((b0_9 != 6)==true)
 (brE (b0_12 != 0)
 (some (.inr (5,())))
 (gL qaz b0_2<|
 (gL qb1 b0_7<|
 (gL qb1 b0_8<|
 (some (.inl (((),false),(b0,(b0_1,((dL qaz b0_2),(b0_3,(b0_4,(b0_5,(b0_6,((dL qb1 b0_7),((dL qb1 b0_8),(b0_9,(b0_10,(b0_11,b0_12)))))))))))))))))))
 (gL qaz b0_2<|
 (gL qb1 b0_7<|
 (gL qb1 b0_8<|
 (some (.inl (((),false),(b0,(b0_1,((dL qaz b0_2),(b0_3,(b0_4,(b0_5,(b0_6,((dL qb1 b0_7),((dL qb1 b0_8),(b0_9,(b0_10,(b0_11,b0_12)))))))))))))))))))
 (some (.inr (5,()))))
 (brE ((b0_9 != 6)==true)
 (brE (b0_12 != 0)
 (some (.inr (5,())))
 (gL qaz b0_2<|
 (gL qb1 b0_7<|
 (gL qb1 b0_8<|
 (some (.inl (((),false),(b0,(b0_1,((dL qaz b0_2),(b0_3,(b0_4,(b0_5,(b0_6,((dL qb1 b0_7),((dL qb1 b0_8),(b0_9,(b0_10,(b0_11,b0_12)))))))))))))))))))
 (gL qaz b0_2<|
 (gL qb1 b0_7<|
 (gL qb1 b0_8<|
 (some (.inl (((),false),(b0,(b0_1,((dL qaz b0_2),(b0_3,(b0_4,(b0_5,(b0_6,((dL qb1 b0_7),((dL qb1 b0_8),(b0_9,(b0_10,(b0_11,b0_12)))))))))))))))))))))
theorem q130 {b0 b0_1 b0_2 b0_3 b0_4 b0_5 b0_6 b0_7 b0_8 b0_9 b0_10 b0_11 b0_12 r} (h:q135 b0 b0_1 b0_2 b0_3 b0_4 b0_5 b0_6 b0_7 b0_8 b0_9 b0_10 b0_11 b0_12=some r):q12y b0 b0_1 b0_2 b0_3 b0_4 b0_5 b0_6 b0_7 b0_8 b0_9 b0_10 b0_11 b0_12=some r :=
 qn5 (es:=q1jt) (hs:=qpl) [] (by kernel_rfl) trivial trivial (by kernel_rfl) h
def q12z:=gentS Tryz.prog lv X0 15 (qni (cdF Tryz.f82) 15) (by kernel_rfl) q134 q131 (fun x=>q12y x.2.1 x.2.2.1 x.2.2.2.1 x.2.2.2.2.1 x.2.2.2.2.2.1 x.2.2.2.2.2.2.1 x.2.2.2.2.2.2.2.1 x.2.2.2.2.2.2.2.2.1 x.2.2.2.2.2.2.2.2.2.1 x.2.2.2.2.2.2.2.2.2.2.1 x.2.2.2.2.2.2.2.2.2.2.2.1 x.2.2.2.2.2.2.2.2.2.2.2.2.1 x.2.2.2.2.2.2.2.2.2.2.2.2.2) (fun _ _ h=>qn4 h)
def q13p:=sLS [1] z4e z4c [false] [] (by decide) (fun _=>rfl)
def q13o:=sLS [2] (qrf z4b) qre [] [] (by decide) (fun _=>rfl)
def q13n:=oAt 1 q13o
def q13k (b0 b0_1:Int) (b0_2:L48) (b0_3:BA) (b0_4:Int) (b0_5:BA) (b0_6:Int) (b0_7 b0_8:L50) (b0_9:Int) (b0_10 b0_11:BA) (b0_12:Int):=gS Tryz.prog lv X0 82 151 (qni (cdF Tryz.f82) 21) q13p q13n ((),(b0,b0_1,b0_2,b0_3,b0_4,b0_5,b0_6,b0_7,b0_8,b0_9,b0_10,b0_11,b0_12))
def q13q (b0 b0_1:Int) (b0_2:L48) (b0_3:BA) (b0_4:Int) (b0_5:BA) (b0_6:Int) (b0_7 b0_8:L50) (b0_9:Int) (b0_10 b0_11:BA) (b0_12:Int):Oq (Int×Unit) :=
 ((qz4 b0_12 0 63).bind fun r0 =>
 (brE (!r0)
 (some (3,()))
 (some (0,()))))
theorem q13m {b0 b0_1 b0_2 b0_3 b0_4 b0_5 b0_6 b0_7 b0_8 b0_9 b0_10 b0_11 b0_12 r} (h:q13q b0 b0_1 b0_2 b0_3 b0_4 b0_5 b0_6 b0_7 b0_8 b0_9 b0_10 b0_11 b0_12=some r):q13k b0 b0_1 b0_2 b0_3 b0_4 b0_5 b0_6 b0_7 b0_8 b0_9 b0_10 b0_11 b0_12=some r :=
 qn5 (es:=q1jt) (hs:=qpl) [] (by kernel_rfl) trivial trivial (by kernel_rfl) h
def q13l:=gentS Tryz.prog lv X0 21 (qni (cdF Tryz.f82) 21) (by kernel_rfl) q13p q13n (fun x=>q13k x.2.1 x.2.2.1 x.2.2.2.1 x.2.2.2.2.1 x.2.2.2.2.2.1 x.2.2.2.2.2.2.1 x.2.2.2.2.2.2.2.1 x.2.2.2.2.2.2.2.2.1 x.2.2.2.2.2.2.2.2.2.1 x.2.2.2.2.2.2.2.2.2.2.1 x.2.2.2.2.2.2.2.2.2.2.2.1 x.2.2.2.2.2.2.2.2.2.2.2.2.1 x.2.2.2.2.2.2.2.2.2.2.2.2.2) (fun _ _ h=>qn4 h)
def q13i:=sLS [1] z4e z4c [false] [] (by decide) (fun _=>rfl)
def q13h:=sLS [2] (qrf z4b) qre [] [] (by decide) (fun _=>rfl)
def q13g:=oAt 1 q13h
def q13d (b0 b0_1:Int) (b0_2:L48) (b0_3:BA) (b0_4:Int) (b0_5:BA) (b0_6:Int) (b0_7 b0_8:L50) (b0_9:Int) (b0_10 b0_11:BA) (b0_12:Int):=gS Tryz.prog lv X0 82 151 (qni (cdF Tryz.f82) 19) q13i q13g ((),(b0,b0_1,b0_2,b0_3,b0_4,b0_5,b0_6,b0_7,b0_8,b0_9,b0_10,b0_11,b0_12))
def q13j (b0 b0_1:Int) (b0_2:L48) (b0_3:BA) (b0_4:Int) (b0_5:BA) (b0_6:Int) (b0_7 b0_8:L50) (b0_9:Int) (b0_10 b0_11:BA) (b0_12:Int):Oq (Int×Unit) :=
 (brE (decide ((b0_11.size:Int)>200))
 (some (1,()))
 (gL qaz b0_2<|
 (gL qb1 b0_7<|
 (gL qb1 b0_8<|
 ((q13k b0 b0_1 (dL qaz b0_2) b0_3 b0_4 b0_5 b0_6 (dL qb1 b0_7) (dL qb1 b0_8) b0_9 b0_10 b0_11 b0_12).bind fun r0 =>
 (some (r0.1,())))))))
theorem q13f {b0 b0_1 b0_2 b0_3 b0_4 b0_5 b0_6 b0_7 b0_8 b0_9 b0_10 b0_11 b0_12 r} (h:q13j b0 b0_1 b0_2 b0_3 b0_4 b0_5 b0_6 b0_7 b0_8 b0_9 b0_10 b0_11 b0_12=some r):q13d b0 b0_1 b0_2 b0_3 b0_4 b0_5 b0_6 b0_7 b0_8 b0_9 b0_10 b0_11 b0_12=some r :=
 qn5 (es:=q1jt) (hs:=qpl) [q13l] (by kernel_rfl) trivial ⟨⟨_,rfl,rfl⟩,trivial⟩ (by kernel_rfl) h
def q13e:=gentS Tryz.prog lv X0 19 (qni (cdF Tryz.f82) 19) (by kernel_rfl) q13i q13g (fun x=>q13d x.2.1 x.2.2.1 x.2.2.2.1 x.2.2.2.2.1 x.2.2.2.2.2.1 x.2.2.2.2.2.2.1 x.2.2.2.2.2.2.2.1 x.2.2.2.2.2.2.2.2.1 x.2.2.2.2.2.2.2.2.2.1 x.2.2.2.2.2.2.2.2.2.2.1 x.2.2.2.2.2.2.2.2.2.2.2.1 x.2.2.2.2.2.2.2.2.2.2.2.2.1 x.2.2.2.2.2.2.2.2.2.2.2.2.2) (fun _ _ h=>qn4 h)
def q13b:=sLS [1] z4e z4c [false] [] (by decide) (fun _=>rfl)
def q13a:=sLS [2] (qrf z4b) qre [] [] (by decide) (fun _=>rfl)
def q139:=oAt 1 q13a
def q136 (b0 b0_1:Int) (b0_2:L48) (b0_3:BA) (b0_4:Int) (b0_5:BA) (b0_6:Int) (b0_7 b0_8:L50) (b0_9:Int) (b0_10 b0_11:BA) (b0_12:Int):=gS Tryz.prog lv X0 82 151 (qni (cdF Tryz.f82) 17) q13b q139 ((),(b0,b0_1,b0_2,b0_3,b0_4,b0_5,b0_6,b0_7,b0_8,b0_9,b0_10,b0_11,b0_12))
def q13c (b0 b0_1:Int) (b0_2:L48) (b0_3:BA) (b0_4:Int) (b0_5:BA) (b0_6:Int) (b0_7 b0_8:L50) (b0_9:Int) (b0_10 b0_11:BA) (b0_12:Int):Oq (Int×Unit) :=
 (brE ((b0==3)==true)
 ((q18y b0_10).bind fun r0 =>
 (brE (!r0)
 (some (10,()))
 (gL qaz b0_2<|
 (gL qb1 b0_7<|
 (gL qb1 b0_8<|
 ((q13d b0 b0_1 (dL qaz b0_2) b0_3 b0_4 b0_5 b0_6 (dL qb1 b0_7) (dL qb1 b0_8) b0_9 b0_10 b0_11 b0_12).bind fun r1 =>
 (some (r1.1,()))))))))
 (gL qaz b0_2<|
 (gL qb1 b0_7<|
 (gL qb1 b0_8<|
 ((q13d b0 b0_1 (dL qaz b0_2) b0_3 b0_4 b0_5 b0_6 (dL qb1 b0_7) (dL qb1 b0_8) b0_9 b0_10 b0_11 b0_12).bind fun r0 =>
 (some (r0.1,())))))))
theorem q138 {b0 b0_1 b0_2 b0_3 b0_4 b0_5 b0_6 b0_7 b0_8 b0_9 b0_10 b0_11 b0_12 r} (h:q13c b0 b0_1 b0_2 b0_3 b0_4 b0_5 b0_6 b0_7 b0_8 b0_9 b0_10 b0_11 b0_12=some r):q136 b0 b0_1 b0_2 b0_3 b0_4 b0_5 b0_6 b0_7 b0_8 b0_9 b0_10 b0_11 b0_12=some r :=
 qn5 (es:=q1jt) (hs:=qpl) [q13e] (by kernel_rfl) trivial ⟨⟨_,rfl,rfl⟩,trivial⟩ (by kernel_rfl) h
def q137:=gentS Tryz.prog lv X0 17 (qni (cdF Tryz.f82) 17) (by kernel_rfl) q13b q139 (fun x=>q136 x.2.1 x.2.2.1 x.2.2.2.1 x.2.2.2.2.1 x.2.2.2.2.2.1 x.2.2.2.2.2.2.1 x.2.2.2.2.2.2.2.1 x.2.2.2.2.2.2.2.2.1 x.2.2.2.2.2.2.2.2.2.1 x.2.2.2.2.2.2.2.2.2.2.1 x.2.2.2.2.2.2.2.2.2.2.2.1 x.2.2.2.2.2.2.2.2.2.2.2.2.1 x.2.2.2.2.2.2.2.2.2.2.2.2.2) (fun _ _ h=>qn4 h)
def q12w:=sLS [1] z4e z4c [false] [] (by decide) (fun _=>rfl)
def q12v:=sLS [2] (qrf z4b) qre [] [] (by decide) (fun _=>rfl)
def q12u:=oAt 1 q12v
def q12r (b0 b0_1:Int) (b0_2:L48) (b0_3:BA) (b0_4:Int) (b0_5:BA) (b0_6:Int) (b0_7 b0_8:L50) (b0_9:Int) (b0_10 b0_11:BA) (b0_12:Int):=gS Tryz.prog lv X0 82 151 (qni (cdF Tryz.f82) 12) q12w q12u ((),(b0,b0_1,b0_2,b0_3,b0_4,b0_5,b0_6,b0_7,b0_8,b0_9,b0_10,b0_11,b0_12))
def q12x (b0 b0_1:Int) (b0_2:L48) (b0_3:BA) (b0_4:Int) (b0_5:BA) (b0_6:Int) (b0_7 b0_8:L50) (b0_9:Int) (b0_10 b0_11:BA) (b0_12:Int):Oq (Int×Unit) :=
 (brE (b0==2)
 ((qz4 b0_9 1 7).bind fun r0 =>
 (brE (!r0)
 (some (4,()))
 (gL qaz b0_2<|
 (gL qb1 b0_7<|
 (gL qb1 b0_8<|
 ((q12y b0 b0_1 (dL qaz b0_2) b0_3 b0_4 b0_5 b0_6 (dL qb1 b0_7) (dL qb1 b0_8) b0_9 b0_10 b0_11 b0_12).bind fun r1 =>
 (Sum.elim (fun r2=>(gdE (EC.isL qaz (EC.encL qaz r2.2.2.2.1))<|
 (gL qb1 r2.2.2.2.2.2.2.2.2.1<|
 (gL qb1 r2.2.2.2.2.2.2.2.2.2.1<|
 ((q136 r2.2.1 r2.2.2.1 (dL qaz r2.2.2.2.1) r2.2.2.2.2.1 r2.2.2.2.2.2.1 r2.2.2.2.2.2.2.1 r2.2.2.2.2.2.2.2.1 (dL qb1 r2.2.2.2.2.2.2.2.2.1) (dL qb1 r2.2.2.2.2.2.2.2.2.2.1) r2.2.2.2.2.2.2.2.2.2.2.1 r2.2.2.2.2.2.2.2.2.2.2.2.1 r2.2.2.2.2.2.2.2.2.2.2.2.2.1 r2.2.2.2.2.2.2.2.2.2.2.2.2.2).bind fun r3 =>
 (some (r3.1,())))))))
 (fun r2=>(some (r2.1,()))) r1)))))))
 (gL qaz b0_2<|
 (gL qb1 b0_7<|
 (gL qb1 b0_8<|
 ((q136 b0 b0_1 (dL qaz b0_2) b0_3 b0_4 b0_5 b0_6 (dL qb1 b0_7) (dL qb1 b0_8) b0_9 b0_10 b0_11 b0_12).bind fun r0 =>
 (some (r0.1,())))))))
theorem q12t {b0 b0_1 b0_2 b0_3 b0_4 b0_5 b0_6 b0_7 b0_8 b0_9 b0_10 b0_11 b0_12 r} (h:q12x b0 b0_1 b0_2 b0_3 b0_4 b0_5 b0_6 b0_7 b0_8 b0_9 b0_10 b0_11 b0_12=some r):q12r b0 b0_1 b0_2 b0_3 b0_4 b0_5 b0_6 b0_7 b0_8 b0_9 b0_10 b0_11 b0_12=some r :=
 qn5 (es:=q1jt) (hs:=qpl) [q12z,q137] (by kernel_rfl) trivial ⟨⟨_,rfl,rfl⟩,⟨_,rfl,rfl⟩,trivial⟩ (by kernel_rfl) h
def q12s:=gentS Tryz.prog lv X0 12 (qni (cdF Tryz.f82) 12) (by kernel_rfl) q12w q12u (fun x=>q12r x.2.1 x.2.2.1 x.2.2.2.1 x.2.2.2.2.1 x.2.2.2.2.2.1 x.2.2.2.2.2.2.1 x.2.2.2.2.2.2.2.1 x.2.2.2.2.2.2.2.2.1 x.2.2.2.2.2.2.2.2.2.1 x.2.2.2.2.2.2.2.2.2.2.1 x.2.2.2.2.2.2.2.2.2.2.2.1 x.2.2.2.2.2.2.2.2.2.2.2.2.1 x.2.2.2.2.2.2.2.2.2.2.2.2.2) (fun _ _ h=>qn4 h)
def q12p:=sLS [1] z4e z4c [false] [] (by decide) (fun _=>rfl)
def q12o:=sLS [2] (qrf z4b) qre [] [] (by decide) (fun _=>rfl)
def q12n:=oAt 1 q12o
def q12k (b0 b0_1:Int) (b0_2:L48) (b0_3:BA) (b0_4:Int) (b0_5:BA) (b0_6:Int) (b0_7 b0_8:L50) (b0_9:Int) (b0_10 b0_11:BA) (b0_12:Int):=gS Tryz.prog lv X0 82 151 (qni (cdF Tryz.f82) 10) q12p q12n ((),(b0,b0_1,b0_2,b0_3,b0_4,b0_5,b0_6,b0_7,b0_8,b0_9,b0_10,b0_11,b0_12))
abbrev z26 (b0 b0_1:Int) (b0_2:L48) (b0_3:BA) (b0_4:Int) (b0_5:BA) (b0_6:Int) (b0_7 b0_8:L50) (b0_9:Int) (b0_10 b0_11:BA) (b0_12:Int):=(q12r b0 b0_1 (dL qaz b0_2) b0_3 b0_4 b0_5 b0_6 (dL qb1 b0_7) (dL qb1 b0_8) b0_9 b0_10 b0_11 b0_12)
def q12q (b0 b0_1:Int) (b0_2:L48) (b0_3:BA) (b0_4:Int) (b0_5:BA) (b0_6:Int) (b0_7 b0_8:L50) (b0_9:Int) (b0_10 b0_11:BA) (b0_12:Int):Oq (Int×Unit) :=
 (brE ((b0 != 2)==true)
 (brE ((b0_9 != 0)==false)
 (brE ((b0_12 != 0)==false)
 (brE ((b0 != 3)==true)
 (brE ((!(b0_10.toList==(ByteArray.toList ⟨#[]⟩)))==false)
 (brE ((b0==4)==true)
 (brE (!(b0_11.toList==(ByteArray.toList ⟨#[]⟩)))
 (some (5,()))
 (gL qaz b0_2<|
 (gL qb1 b0_7<|
 (gL qb1 b0_8<|
 ((z26 b0 b0_1 b0_2 b0_3 b0_4 b0_5 b0_6 b0_7 b0_8 b0_9 b0_10 b0_11 b0_12).bind fun r0 =>
 (some (r0.1,())))))))
 (gL qaz b0_2<|
 (gL qb1 b0_7<|
 (gL qb1 b0_8<|
 ((z26 b0 b0_1 b0_2 b0_3 b0_4 b0_5 b0_6 b0_7 b0_8 b0_9 b0_10 b0_11 b0_12).bind fun r0 =>
 (some (r0.1,())))))))
 (some (5,())))
 (brE ((b0==4)==true)
 (brE (!(b0_11.toList==(ByteArray.toList ⟨#[]⟩)))
 (some (5,()))
 (gL qaz b0_2<|
 (gL qb1 b0_7<|
 (gL qb1 b0_8<|
 ((z26 b0 b0_1 b0_2 b0_3 b0_4 b0_5 b0_6 b0_7 b0_8 b0_9 b0_10 b0_11 b0_12).bind fun r0 =>
 (some (r0.1,())))))))
 (gL qaz b0_2<|
 (gL qb1 b0_7<|
 (gL qb1 b0_8<|
 ((z26 b0 b0_1 b0_2 b0_3 b0_4 b0_5 b0_6 b0_7 b0_8 b0_9 b0_10 b0_11 b0_12).bind fun r0 =>
 (some (r0.1,()))))))))
 (some (5,())))
 (some (5,())))
 (brE ((b0 != 3)==true)
 (brE ((!(b0_10.toList==(ByteArray.toList ⟨#[]⟩)))==false)
 (brE ((b0==4)==true)
 (brE (!(b0_11.toList==(ByteArray.toList ⟨#[]⟩)))
 (some (5,()))
 (gL qaz b0_2<|
 (gL qb1 b0_7<|
 (gL qb1 b0_8<|
 ((z26 b0 b0_1 b0_2 b0_3 b0_4 b0_5 b0_6 b0_7 b0_8 b0_9 b0_10 b0_11 b0_12).bind fun r0 =>
 (some (r0.1,())))))))
 (gL qaz b0_2<|
 (gL qb1 b0_7<|
 (gL qb1 b0_8<|
 ((z26 b0 b0_1 b0_2 b0_3 b0_4 b0_5 b0_6 b0_7 b0_8 b0_9 b0_10 b0_11 b0_12).bind fun r0 =>
 (some (r0.1,())))))))
 (some (5,())))
 (brE ((b0==4)==true)
 (brE (!(b0_11.toList==(ByteArray.toList ⟨#[]⟩)))
 (some (5,()))
 (gL qaz b0_2<|
 (gL qb1 b0_7<|
 (gL qb1 b0_8<|
 ((z26 b0 b0_1 b0_2 b0_3 b0_4 b0_5 b0_6 b0_7 b0_8 b0_9 b0_10 b0_11 b0_12).bind fun r0 =>
 (some (r0.1,())))))))
 (gL qaz b0_2<|
 (gL qb1 b0_7<|
 (gL qb1 b0_8<|
 ((z26 b0 b0_1 b0_2 b0_3 b0_4 b0_5 b0_6 b0_7 b0_8 b0_9 b0_10 b0_11 b0_12).bind fun r0 =>
 (some (r0.1,())))))))))
theorem q12m {b0 b0_1 b0_2 b0_3 b0_4 b0_5 b0_6 b0_7 b0_8 b0_9 b0_10 b0_11 b0_12 r} (h:q12q b0 b0_1 b0_2 b0_3 b0_4 b0_5 b0_6 b0_7 b0_8 b0_9 b0_10 b0_11 b0_12=some r):q12k b0 b0_1 b0_2 b0_3 b0_4 b0_5 b0_6 b0_7 b0_8 b0_9 b0_10 b0_11 b0_12=some r :=
 qn5 (es:=q1jt) (hs:=qpl) [q12s] (by kernel_rfl) trivial ⟨⟨_,rfl,rfl⟩,trivial⟩ (by kernel_rfl) h
def q12l:=gentS Tryz.prog lv X0 10 (qni (cdF Tryz.f82) 10) (by kernel_rfl) q12p q12n (fun x=>q12k x.2.1 x.2.2.1 x.2.2.2.1 x.2.2.2.2.1 x.2.2.2.2.2.1 x.2.2.2.2.2.2.1 x.2.2.2.2.2.2.2.1 x.2.2.2.2.2.2.2.2.1 x.2.2.2.2.2.2.2.2.2.1 x.2.2.2.2.2.2.2.2.2.2.1 x.2.2.2.2.2.2.2.2.2.2.2.1 x.2.2.2.2.2.2.2.2.2.2.2.2.1 x.2.2.2.2.2.2.2.2.2.2.2.2.2) (fun _ _ h=>qn4 h)
def q13w:=sLS [1,3] (qrd (vPtr 0 0) (qrf (vPtr 1 0))) (qrd (qv4 (bBox z49)) z4a) [false,false] [] (by decide) (fun _=>rfl)
def q13v:=sLS [2] (qrf z4b) qre [] [] (by decide) (fun _=>rfl)
def q13u:=oAt 1 q13v
def q13r (b0 b0_1:Int) (b0_2:L48) (b0_3:BA) (b0_4:Int) (b0_5:BA) (b0_6:Int) (b0_7 b0_8:L50) (b0_9:Int) (b0_10 b0_11:BA) (b0_12 b1:Int) (b1_1:L48) (b1_2:BA) (b1_3:Int) (b1_4:BA) (b1_5:Int):=gS Tryz.prog lv X0 82 151 (qni (cdF Tryz.f82) 8) q13w q13u (((),()),((b0,b0_1,b0_2,b0_3,b0_4,b0_5,b0_6,b0_7,b0_8,b0_9,b0_10,b0_11,b0_12),(b1,b1_1,b1_2,b1_3,b1_4,b1_5)))
def q13x (b0 b0_1:Int) (b0_2:L48) (b0_3:BA) (b0_4:Int) (b0_5:BA) (b0_6:Int) (b0_7 b0_8:L50) (b0_9:Int) (b0_10 b0_11:BA) (b0_12 b1:Int) (b1_1:L48) (b1_2:BA) (b1_3:Int) (b1_4:BA) (b1_5:Int):Oq (Int×Unit) :=
 (brE ((b1 != 0)==false)
 (brE ((decide ((lN qaz b1_1:Int)>0))==false)
 (brE ((!(b1_2.toList==(ByteArray.toList ⟨#[]⟩)))==false)
 (brE ((b1_3 != 0)==false)
 (brE ((!(b1_4.toList==(ByteArray.toList ⟨#[]⟩)))==false)
 (brE ((b1_5 != 0)==false)
 (brE ((decide ((lN qb1 b0_7:Int)>0))==false)
 (brE (decide ((lN qb1 b0_8:Int)>0))
 (some (5,()))
 (gL qaz b0_2<|
 (gL qb1 b0_7<|
 (gL qb1 b0_8<|
 ((q12k b0 b0_1 (dL qaz b0_2) b0_3 b0_4 b0_5 b0_6 (dL qb1 b0_7) (dL qb1 b0_8) b0_9 b0_10 b0_11 b0_12).bind fun r0 =>
 (some (r0.1,())))))))
 (some (5,())))
 (some (5,())))
 (some (5,())))
 (some (5,())))
 (some (5,())))
 (some (5,())))
 (some (5,())))
theorem q13t {b0 b0_1 b0_2 b0_3 b0_4 b0_5 b0_6 b0_7 b0_8 b0_9 b0_10 b0_11 b0_12 b1 b1_1 b1_2 b1_3 b1_4 b1_5 r} (h:q13x b0 b0_1 b0_2 b0_3 b0_4 b0_5 b0_6 b0_7 b0_8 b0_9 b0_10 b0_11 b0_12 b1 b1_1 b1_2 b1_3 b1_4 b1_5=some r):q13r b0 b0_1 b0_2 b0_3 b0_4 b0_5 b0_6 b0_7 b0_8 b0_9 b0_10 b0_11 b0_12 b1 b1_1 b1_2 b1_3 b1_4 b1_5=some r :=
 qn5 (es:=q1jt) (hs:=qpl) [q12l] (by kernel_rfl) trivial ⟨⟨_,rfl,rfl⟩,trivial⟩ (by kernel_rfl) h
def q13s:=gentS Tryz.prog lv X0 8 (qni (cdF Tryz.f82) 8) (by kernel_rfl) q13w q13u (fun x=>q13r x.2.1.1 x.2.1.2.1 x.2.1.2.2.1 x.2.1.2.2.2.1 x.2.1.2.2.2.2.1 x.2.1.2.2.2.2.2.1 x.2.1.2.2.2.2.2.2.1 x.2.1.2.2.2.2.2.2.2.1 x.2.1.2.2.2.2.2.2.2.2.1 x.2.1.2.2.2.2.2.2.2.2.2.1 x.2.1.2.2.2.2.2.2.2.2.2.2.1 x.2.1.2.2.2.2.2.2.2.2.2.2.2.1 x.2.1.2.2.2.2.2.2.2.2.2.2.2.2 x.2.2.1 x.2.2.2.1 x.2.2.2.2.1 x.2.2.2.2.2.1 x.2.2.2.2.2.2.1 x.2.2.2.2.2.2.2) (fun _ _ h=>qn4 h)
def q12h:Cod (V×List B) Int:=(cFstU (cPair z4b qre))
def q13y (r_Kind r_Test_Kind:Int) (q19z:L48) (q19x:BA) (q19y:Int) (q1a0:BA) (q19w:Int) (r_Then r_Else:L50) (r_Act:Int) (q19v q1a1:BA) (r_N:Int):=fS Tryz.prog lv X0 82 q12g q12h (r_Kind,r_Test_Kind,q19z,q19x,q19y,q1a0,q19w,r_Then,r_Else,r_Act,q19v,q1a1,r_N)
def q13z (r_Kind r_Test_Kind:Int) (q19z:L48) (q19x:BA) (q19y:Int) (q1a0:BA) (q19w:Int) (r_Then r_Else:L50) (r_Act:Int) (q19v q1a1:BA) (r_N:Int):Oq Int :=
 ((qz4 r_Kind 1 4).bind fun r0 =>
 (brE (!r0)
 (some 4)
 (brE (r_Kind==1)
 (brE ((r_Act != 0)==false)
 (brE ((!(q19v.toList==(ByteArray.toList ⟨#[]⟩)))==false)
 (brE ((!(q1a1.toList==(ByteArray.toList ⟨#[]⟩)))==false)
 (brE (r_N != 0)
 (some 5)
 (gL qaz q19z<|
 ((q177 r_Test_Kind (dL qaz q19z) q19x q19y q1a0 q19w 1).bind fun r1 =>
 (some r1))))
 (some 5))
 (some 5))
 (some 5))
 (gL qaz q19z<|
 (gL qb1 r_Then<|
 (gL qb1 r_Else<|
 (gL qaz q19z<|
 ((q13r r_Kind r_Test_Kind (dL qaz q19z) q19x q19y q1a0 q19w (dL qb1 r_Then) (dL qb1 r_Else) r_Act q19v q1a1 r_N r_Test_Kind (dL qaz q19z) q19x q19y q1a0 q19w).bind fun r1 =>
 (some r1.1)))))))))
theorem q12j {r_Kind r_Test_Kind q19z q19x q19y q1a0 q19w r_Then r_Else r_Act q19v q1a1 r_N r} (h:q13z r_Kind r_Test_Kind q19z q19x q19y q1a0 q19w r_Then r_Else r_Act q19v q1a1 r_N=some r):q13y r_Kind r_Test_Kind q19z q19x q19y q1a0 q19w r_Then r_Else r_Act q19v q1a1 r_N=some r :=
 qjn (es:=q1jt) (hs:=qpl) [q13s] Tryz.func82 rfl (by kernel_rfl) rfl (by kernel_rfl) (by kernel_rfl) trivial ⟨⟨_,rfl,rfl⟩,trivial⟩ (by kernel_rfl) h
def q12i:=entS Tryz.prog lv X0 82 [] q12g q12h (fun x=>q13y x.1 x.2.1 x.2.2.1 x.2.2.2.1 x.2.2.2.2.1 x.2.2.2.2.2.1 x.2.2.2.2.2.2.1 x.2.2.2.2.2.2.2.1 x.2.2.2.2.2.2.2.2.1 x.2.2.2.2.2.2.2.2.2.1 x.2.2.2.2.2.2.2.2.2.2.1 x.2.2.2.2.2.2.2.2.2.2.2.1 x.2.2.2.2.2.2.2.2.2.2.2.2) (fun _ _ h=>qjm h)
def q1jo:=q12i::q1jt
abbrev z4f:=(qrd z4b (qrf z4b))
def q196:=(qrd (vC (cSl qb1)) z4f)
def q197:Cod (V×List B) (Int×Int):=(cFstU (cPair (vAgg z4f) qre))
def q19i (s:L50) (number depth:Int):=fS Tryz.prog lv X0 62 q196 q197 (s,number,depth)
def q198:=entS Tryz.prog lv X0 62 [] q196 q197 (fun x=>q19i x.1 x.2.1 x.2.2) (fun _ _ h=>qjm h)
def q1jz:=q198::q1jo
def q19g:=sLS [0,1,2,6,7] (qrd (vC (cSl qb1)) (qrd z4b (qrd z4b (qrd (vPtr 0 0) (qrf z4b))))) (qrf (qv4 (bBox z4f))) [false] [] (by decide) (fun _=>rfl)
def q19f:=sLS [0,1,2,6,7,14] (qrd (vC (cSl qb1)) (qrd z4b (qrd z4b (qrd (vPtr 0 0) (qrd z4b z4d))))) (qrf (qv4 (bBox z4f))) [false] [] (by decide) (fun _=>rfl)
def q19e:=sLS [6] z4e (qrf (qv4 (bBox z4f))) [false] [] (by decide) (fun _=>rfl)
def q19d:=oOr 1 q19e (oAt 2 q19f) (fun x=>(by decide:(2:Nat)≠1))
def q19a (s:L50) (number depth:Int) (i b0 b0_1:Int):=lS Tryz.prog lv X0 62 86 (qnb (cdF Tryz.f62) 2) q19g q19d ((s,number,depth,(),i),(b0,b0_1))
abbrev z27 (s:L50) (i:Int):=(eC qb1 s i [(K1.int Go.IntKind.i64),(K1.int Go.IntKind.i64),K1.sl,K1.str,(K1.int Go.IntKind.i64),K1.str,(K1.int Go.IntKind.i64),K1.sl,K1.sl,(K1.int Go.IntKind.i64),K1.str,K1.str,(K1.int Go.IntKind.i64)])
abbrev z28 (s:L50) (i:Int):=(List.getD (EC.encL qb1 s) (Int.toNat i) [])
abbrev z29 (s:L50) (i:Int):=(List.getD (z28 s i) 7 C.ne)
def q19h (s:L50) (number depth:Int) (i b0 b0_1:Int):Oq ((Unit×(Int×Int))⊕((L50×Int×Int×Unit×Int×Bool)×(Int×Int))) :=
 (brE (decide (i<(lN qb1 s:Int)))
 (brE (decide (number≥100))
 ((qyl 2 (-1)).bind fun r0 =>
 (some (.inl ((),(r0.1,r0.2)))))
 (brE (decide (depth>8))
 ((qyl 5 number).bind fun r0 =>
 (some (.inl ((),(r0.1,r0.2)))))
 (gdE (p0 i)<|
 (gdE (z27 s i)<|
 (gdE (EC.isL qaz (slOf (List.getD (z28 s i) 2 C.ne)))<|
 (gdE (EC.isL qb1 (slOf (z29 s i)))<|
 (gdE (EC.isL qb1 (slOf (List.getD (z28 s i) 8 C.ne)))<|
 ((q13y (qqd (List.getD (z28 s i) 0 C.ne)) (qqd (List.getD (z28 s i) 1 C.ne)) (uL qaz (List.getD (z28 s i) 2 C.ne)) (q1gu (List.getD (z28 s i) 3 C.ne)) (qqd (List.getD (z28 s i) 4 C.ne)) (q1gu (List.getD (z28 s i) 5 C.ne)) (qqd (List.getD (z28 s i) 6 C.ne)) (uL qb1 (z29 s i)) (uL qb1 (List.getD (z28 s i) 8 C.ne)) (qqd (List.getD (z28 s i) 9 C.ne)) (q1gu (List.getD (z28 s i) 10 C.ne)) (q1gu (List.getD (z28 s i) 11 C.ne)) (qqd (List.getD (z28 s i) 12 C.ne))).bind fun r0 =>
 (brE (r0 != 0)
 ((qyl r0 number).bind fun r1 =>
 (some (.inl ((),(r1.1,r1.2)))))
 (gdE (p0 i)<|
 (gdE (z27 s i)<|
 (gdE (EC.isL qb1 (slOf (z29 s i)))<|
 ((q19i (uL qb1 (z29 s i)) (wI number) (wI depth)).bind fun r1 =>
 (brE (r1.1 != 0)
 (some (.inl ((),(r1.1,r1.2))))
 (gdE (p0 i)<|
 (gdE (z27 s i)<|
 (gdE (p0 i)<|
 (gdE (z27 s i)<|
 (gdE (EC.isL qb1 (slOf (z29 s i)))<|
 ((q100 (uL qb1 (z29 s i))).bind fun r2 =>
 (gdE (EC.isL qb1 (slOf (List.getD (z28 s i) 8 C.ne)))<|
 ((q19i (uL qb1 (List.getD (z28 s i) 8 C.ne)) (IntKind.wrap .i64 ((wI number)+r2)) (wI depth)).bind fun r3 =>
 (brE (r3.1 != 0)
 (some (.inl ((),(r3.1,r3.2))))
 (gdE (p0 i)<|
 (gdE (z27 s i)<|
 (gdE (EC.isL qb1 (slOf (z29 s i)))<|
 ((q100 (uL qb1 (z29 s i))).bind fun r4 =>
 (gdE (p0 i)<|
 (gdE (z27 s i)<|
 (gdE (EC.isL qb1 (slOf (List.getD (z28 s i) 8 C.ne)))<|
 ((q100 (uL qb1 (List.getD (z28 s i) 8 C.ne))).bind fun r5 =>
 (gL qb1 s<|
 (q19a (dL qb1 s) (IntKind.wrap .i64 (number+(IntKind.wrap .i64 ((IntKind.wrap .i64 (1+r4))+r5)))) depth (wI i) b0 b0_1)))))))))))))))))))))))))))))))))
 (gL qb1 s<|
 (some (.inr (((dL qb1 s),(number,(depth,((),(i,false))))),(b0,b0_1))))))
theorem q19c {s number depth i b0 b0_1 r} (h:q19h s number depth i b0 b0_1=some r):q19a s number depth i b0 b0_1=some r :=
 qrh (es:=q1jz) (hs:=qpl) [] (by kernel_rfl) trivial trivial (by kernel_rfl) h
def q19b:=qs5 Tryz.prog lv X0 2 (qnb (cdF Tryz.f62) 2) q19g q19d (fun x=>q19a x.1.1 x.1.2.1 x.1.2.2.1 x.1.2.2.2.2 x.2.1 x.2.2) (fun _ _ h=>qrg h)
def q19j (s:L50) (number depth:Int):Oq (Int×Int) :=
 (gL qb1 s<|
 ((q19a (dL qb1 s) number depth 0 0 0).bind fun r0 =>
 (Sum.elim (fun r1=>(some (r1.2.1,r1.2.2)))
 (fun r1=>(some (0,0))) r0)))
theorem q199 {s number depth r} (h:q19j s number depth=some r):q19i s number depth=some r :=
 qjn (es:=q1jz) (hs:=qpl) [q19b] Tryz.func62 rfl (by kernel_rfl) rfl (by kernel_rfl) (by kernel_rfl) ⟨⟨_,rfl,rfl⟩,trivial⟩ trivial (by kernel_rfl) h
def q140:=(qrf (vC (cSl qb1)))
def q141:Cod (V×List B) (Int×Int):=(cFstU (cPair (vAgg z4f) qre))
def q144 (s:L50):=fS Tryz.prog lv X0 39 q140 q141 s
def q145 (s:L50):Oq (Int×Int) :=
 (gL qb1 s<|
 ((q19i (dL qb1 s) 0 1).bind fun r0 =>
 (some (r0.1,r0.2))))
theorem q143 {s r} (h:q145 s=some r):q144 s=some r :=
 qjn (es:=q1jz) (hs:=qpl) [] Tryz.func39 rfl (by kernel_rfl) rfl (by kernel_rfl) (by kernel_rfl) trivial trivial (by kernel_rfl) h
def q142:=entS Tryz.prog lv X0 39 [] q140 q141 (fun x=>q144 x) (fun _ _ h=>qjm h)
def q1jp:=q142::q1jz
end
end Go.Proofs.YtokahibbkdbndaaGreatDoor
