/- Events and zones that the caller hands in, opened. -/
import Derived.Test.YtjlkjiifkganoaaGreatZ32
import Derived.ChangeArms
namespace Go.Proofs.YtjlkjiifkganoaaGreat
open Go.ChangeShapes Go.WideShapes Go.ChangeAt Go.RowKit Go.Deep
set_option maxRecDepth 100000
theorem L2 {α:Type} {l:List α} (h:l.length=2):∃ a0 a1,l=[a0,a1]:=by
 match l,h with
 |[a0,a1],_=>exact ⟨a0,a1,rfl⟩
theorem L4 {α:Type} {l:List α} (h:l.length=4):∃ a0 a1 a2 a3,l=[a0,a1,a2,a3]:=by
 match l,h with
 |[a0,a1,a2,a3],_=>exact ⟨a0,a1,a2,a3,rfl⟩
theorem L5 {α:Type} {l:List α} (h:l.length=5):∃ a0 a1 a2 a3 a4,l=[a0,a1,a2,a3,a4]:=by
 match l,h with
 |[a0,a1,a2,a3,a4],_=>exact ⟨a0,a1,a2,a3,a4,rfl⟩
theorem L7 {α:Type} {l:List α} (h:l.length=7):∃ a0 a1 a2 a3 a4 a5 a6,l=[a0,a1,a2,a3,a4,a5,a6]:=by
 match l,h with
 |[a0,a1,a2,a3,a4,a5,a6],_=>exact ⟨a0,a1,a2,a3,a4,a5,a6,rfl⟩
theorem L8 {α:Type} {l:List α} (h:l.length=8):∃ a0 a1 a2 a3 a4 a5 a6 a7,l=[a0,a1,a2,a3,a4,a5,a6,a7]:=by
 match l,h with
 |[a0,a1,a2,a3,a4,a5,a6,a7],_=>exact ⟨a0,a1,a2,a3,a4,a5,a6,a7,rfl⟩
theorem L11 {α:Type} {l:List α} (h:l.length=11):∃ a0 a1 a2 a3 a4 a5 a6 a7 a8 a9 a10,l=[a0,a1,a2,a3,a4,a5,a6,a7,a8,a9,a10]:=by
 match l,h with
 |[a0,a1,a2,a3,a4,a5,a6,a7,a8,a9,a10],_=>exact ⟨a0,a1,a2,a3,a4,a5,a6,a7,a8,a9,a10,rfl⟩
theorem L24 {α:Type} {l:List α} (h:l.length=24):∃ a0 a1 a2 a3 a4 a5 a6 a7 a8 a9 a10 a11 a12 a13 a14 a15 a16 a17 a18 a19 a20 a21 a22 a23,l=[a0,a1,a2,a3,a4,a5,a6,a7,a8,a9,a10,a11,a12,a13,a14,a15,a16,a17,a18,a19,a20,a21,a22,a23]:=by
 match l,h with
 |[a0,a1,a2,a3,a4,a5,a6,a7,a8,a9,a10,a11,a12,a13,a14,a15,a16,a17,a18,a19,a20,a21,a22,a23],_=>exact ⟨a0,a1,a2,a3,a4,a5,a6,a7,a8,a9,a10,a11,a12,a13,a14,a15,a16,a17,a18,a19,a20,a21,a22,a23,rfl⟩
theorem sl_len {Z:ZMap} {v:Value} {es:List (List C)} (h:RepC Z v (.sl es)):es.length≤maxLen:=by
 cases h with
 |sl A n c k b off U _ hl hc hm _ _ _ _ _=>omega
section
variable {H:Type} {enc:TypeId×Value→H} {w:World}
theorem qkw {fuel:Nat} {cs:List Value} {y:DataW H×List MemPlace} (h:DataW.trod enc Tryz.prog w 0 (fun _=>true) true fuel 3 cs=some y) :
  ∃ a:Int,RepL (Zw w) cs (qak.enc a)∧True:=by
 obtain ⟨a0,e0,_,_⟩:=DataW.trod_int Tryz.underlying3 h
 subst e0
 exact ⟨a0,⟨.int _ _,trivial⟩,trivial⟩
theorem qku {fuel:Nat} {cs:List Value} {y:DataW H×List MemPlace} (h:DataW.trod enc Tryz.prog w 0 (fun _=>true) true fuel 152 cs=some y) :
  ∃ a:S152,RepL (Zw w) cs (qaj.enc a)∧True:=by
 obtain ⟨xs,n,_,hx,hl,hxl,hf⟩:=DataW.trod_struct Tryz.underlying152 h
 have hc:Tryz.prog.cellsOf 152=2:=by kernel_rfl
 have c_i:Tryz.prog.cellsOf 3=1:=by kernel_rfl
 have c_s:Tryz.prog.cellsOf 9=1:=by kernel_rfl
 rw [hc] at hl
 obtain ⟨u0,u1,rfl⟩:=L2 hl
 obtain ⟨x0,x1,rfl⟩:=L2 hxl
 have h0:DataW.trod enc Tryz.prog w 0 (fun _=>true) true n 9 [u0]=some x0:=by have:=hf 0 _ rfl;simpa [c_i,c_s] using this
 have h1:DataW.trod enc Tryz.prog w 0 (fun _=>true) true n 3 [u1]=some x1:=by have:=hf 1 _ rfl;simpa [c_i,c_s] using this
 obtain ⟨a0,e0,_,_⟩:=DataW.trod_string Tryz.underlying9 h0
 injection e0 with e0
 subst e0
 obtain ⟨a1,e1,_,_⟩:=DataW.trod_int Tryz.underlying3 h1
 injection e1 with e1
 subst e1
 exact ⟨⟨a0,a1⟩,⟨.str _,.int _ _,trivial⟩,trivial⟩
theorem qkz {fuel:Nat} {cs:List Value} {y:DataW H×List MemPlace} (h:DataW.trod enc Tryz.prog w 0 (fun _=>true) true fuel 32 cs=some y) :
  ∃ a0 a1 a2 a3:Int,cs=[.int .i64 a0,.int .i64 a1,.int .i64 a2,.int .i64 a3]:=by
 obtain ⟨xs,n,_,hx,hl,hxl,hf⟩:=DataW.trod_struct Tryz.underlying32 h
 have hc:Tryz.prog.cellsOf 32=4:=by kernel_rfl
 have c_i:Tryz.prog.cellsOf 3=1:=by kernel_rfl
 rw [hc] at hl
 obtain ⟨u0,u1,u2,u3,rfl⟩:=L4 hl
 obtain ⟨x0,x1,x2,x3,rfl⟩:=L4 hxl
 have h0:DataW.trod enc Tryz.prog w 0 (fun _=>true) true n 3 [u0]=some x0:=by have:=hf 0 _ rfl;simpa [c_i] using this
 have h1:DataW.trod enc Tryz.prog w 0 (fun _=>true) true n 3 [u1]=some x1:=by have:=hf 1 _ rfl;simpa [c_i] using this
 have h2:DataW.trod enc Tryz.prog w 0 (fun _=>true) true n 3 [u2]=some x2:=by have:=hf 2 _ rfl;simpa [c_i] using this
 have h3:DataW.trod enc Tryz.prog w 0 (fun _=>true) true n 3 [u3]=some x3:=by have:=hf 3 _ rfl;simpa [c_i] using this
 obtain ⟨a0,e0,_,_⟩:=DataW.trod_int Tryz.underlying3 h0
 injection e0 with e0
 subst e0
 obtain ⟨a1,e1,_,_⟩:=DataW.trod_int Tryz.underlying3 h1
 injection e1 with e1
 subst e1
 obtain ⟨a2,e2,_,_⟩:=DataW.trod_int Tryz.underlying3 h2
 injection e2 with e2
 subst e2
 obtain ⟨a3,e3,_,_⟩:=DataW.trod_int Tryz.underlying3 h3
 injection e3 with e3
 subst e3
 exact ⟨_,_,_,_,rfl⟩
theorem qkr {fuel:Nat} {cs:List Value} {y:DataW H×List MemPlace} (h:DataW.trod enc Tryz.prog w 0 (fun _=>true) true fuel 37 cs=some y) :
  ∃ a0 a1 a2 a3 a4 a5 a6:Int,cs=[.int .i64 a0,.int .i64 a1,.int .i64 a2,.int .i64 a3,.int .i64 a4,.int .i64 a5,.int .i64 a6]:=by
 obtain ⟨xs,n,_,hx,hl,hxl,hf⟩:=DataW.trod_struct Tryz.underlying37 h
 have hc:Tryz.prog.cellsOf 37=7:=by kernel_rfl
 have c_i:Tryz.prog.cellsOf 3=1:=by kernel_rfl
 rw [hc] at hl
 obtain ⟨u0,u1,u2,u3,u4,u5,u6,rfl⟩:=L7 hl
 obtain ⟨x0,x1,x2,x3,x4,x5,x6,rfl⟩:=L7 hxl
 have h0:DataW.trod enc Tryz.prog w 0 (fun _=>true) true n 3 [u0]=some x0:=by have:=hf 0 _ rfl;simpa [c_i] using this
 have h1:DataW.trod enc Tryz.prog w 0 (fun _=>true) true n 3 [u1]=some x1:=by have:=hf 1 _ rfl;simpa [c_i] using this
 have h2:DataW.trod enc Tryz.prog w 0 (fun _=>true) true n 3 [u2]=some x2:=by have:=hf 2 _ rfl;simpa [c_i] using this
 have h3:DataW.trod enc Tryz.prog w 0 (fun _=>true) true n 3 [u3]=some x3:=by have:=hf 3 _ rfl;simpa [c_i] using this
 have h4:DataW.trod enc Tryz.prog w 0 (fun _=>true) true n 3 [u4]=some x4:=by have:=hf 4 _ rfl;simpa [c_i] using this
 have h5:DataW.trod enc Tryz.prog w 0 (fun _=>true) true n 3 [u5]=some x5:=by have:=hf 5 _ rfl;simpa [c_i] using this
 have h6:DataW.trod enc Tryz.prog w 0 (fun _=>true) true n 3 [u6]=some x6:=by have:=hf 6 _ rfl;simpa [c_i] using this
 obtain ⟨a0,e0,_,_⟩:=DataW.trod_int Tryz.underlying3 h0
 injection e0 with e0
 subst e0
 obtain ⟨a1,e1,_,_⟩:=DataW.trod_int Tryz.underlying3 h1
 injection e1 with e1
 subst e1
 obtain ⟨a2,e2,_,_⟩:=DataW.trod_int Tryz.underlying3 h2
 injection e2 with e2
 subst e2
 obtain ⟨a3,e3,_,_⟩:=DataW.trod_int Tryz.underlying3 h3
 injection e3 with e3
 subst e3
 obtain ⟨a4,e4,_,_⟩:=DataW.trod_int Tryz.underlying3 h4
 injection e4 with e4
 subst e4
 obtain ⟨a5,e5,_,_⟩:=DataW.trod_int Tryz.underlying3 h5
 injection e5 with e5
 subst e5
 obtain ⟨a6,e6,_,_⟩:=DataW.trod_int Tryz.underlying3 h6
 injection e6 with e6
 subst e6
 exact ⟨_,_,_,_,_,_,_,rfl⟩
theorem qkx {fuel:Nat} {cs:List Value} {y:DataW H×List MemPlace} (h:DataW.trod enc Tryz.prog w 0 (fun _=>true) true fuel 40 cs=some y) :
  ∃ (a0 a1 a2 a3:Int) (a4:Bool) (a5 a6 a7:List Int) (v5 v6 v7:Value),cs=[.int .i64 a0,.int .i64 a1,.int .i64 a2,.int .i64 a3,.bool a4,v5,v6,v7]∧RepC (Zw w) v5 (.sl (qak.encL a5))∧RepC (Zw w) v6 (.sl (qak.encL a6))∧RepC (Zw w) v7 (.sl (qak.encL a7)):=by
 obtain ⟨xs,n,_,hx,hl,hxl,hf⟩:=DataW.trod_struct Tryz.underlying40 h
 have hc:Tryz.prog.cellsOf 40=8:=by kernel_rfl
 have c_b:Tryz.prog.cellsOf 4=1:=by kernel_rfl
 have c_i:Tryz.prog.cellsOf 3=1:=by kernel_rfl
 have c_l:Tryz.prog.cellsOf 38=1:=by kernel_rfl
 rw [hc] at hl
 obtain ⟨u0,u1,u2,u3,u4,u5,u6,u7,rfl⟩:=L8 hl
 obtain ⟨x0,x1,x2,x3,x4,x5,x6,x7,rfl⟩:=L8 hxl
 have h0:DataW.trod enc Tryz.prog w 0 (fun _=>true) true n 3 [u0]=some x0:=by have:=hf 0 _ rfl;simpa [c_b,c_i,c_l] using this
 have h1:DataW.trod enc Tryz.prog w 0 (fun _=>true) true n 3 [u1]=some x1:=by have:=hf 1 _ rfl;simpa [c_b,c_i,c_l] using this
 have h2:DataW.trod enc Tryz.prog w 0 (fun _=>true) true n 3 [u2]=some x2:=by have:=hf 2 _ rfl;simpa [c_b,c_i,c_l] using this
 have h3:DataW.trod enc Tryz.prog w 0 (fun _=>true) true n 3 [u3]=some x3:=by have:=hf 3 _ rfl;simpa [c_b,c_i,c_l] using this
 have h4:DataW.trod enc Tryz.prog w 0 (fun _=>true) true n 4 [u4]=some x4:=by have:=hf 4 _ rfl;simpa [c_b,c_i,c_l] using this
 have h5:DataW.trod enc Tryz.prog w 0 (fun _=>true) true n 38 [u5]=some x5:=by have:=hf 5 _ rfl;simpa [c_b,c_i,c_l] using this
 have h6:DataW.trod enc Tryz.prog w 0 (fun _=>true) true n 38 [u6]=some x6:=by have:=hf 6 _ rfl;simpa [c_b,c_i,c_l] using this
 have h7:DataW.trod enc Tryz.prog w 0 (fun _=>true) true n 38 [u7]=some x7:=by have:=hf 7 _ rfl;simpa [c_b,c_i,c_l] using this
 obtain ⟨a0,e0,_,_⟩:=DataW.trod_int Tryz.underlying3 h0
 injection e0 with e0
 subst e0
 obtain ⟨a1,e1,_,_⟩:=DataW.trod_int Tryz.underlying3 h1
 injection e1 with e1
 subst e1
 obtain ⟨a2,e2,_,_⟩:=DataW.trod_int Tryz.underlying3 h2
 injection e2 with e2
 subst e2
 obtain ⟨a3,e3,_,_⟩:=DataW.trod_int Tryz.underlying3 h3
 injection e3 with e3
 subst e3
 obtain ⟨a4,e4,_⟩:=DataW.trod_bool Tryz.underlying4 h4
 injection e4 with e4
 subst e4
 obtain ⟨a5,_,r5,_,_⟩:=qp7 (k:=1) qak (fun _ _=>True) Tryz.underlying38 (by kernel_rfl) (by decide) h5 (fun fuel cs y _ hy=>qkw hy)
 obtain ⟨a6,_,r6,_,_⟩:=qp7 (k:=1) qak (fun _ _=>True) Tryz.underlying38 (by kernel_rfl) (by decide) h6 (fun fuel cs y _ hy=>qkw hy)
 obtain ⟨a7,_,r7,_,_⟩:=qp7 (k:=1) qak (fun _ _=>True) Tryz.underlying38 (by kernel_rfl) (by decide) h7 (fun fuel cs y _ hy=>qkw hy)
 exact ⟨_,_,_,_,_,_,_,_,_,_,_,rfl,r5,r6,r7⟩
theorem ql0 {fuel:Nat} {cs:List Value} {y:DataW H×List MemPlace} (h:DataW.trod enc Tryz.prog w 0 (fun _=>true) true fuel 34 cs=some y) :
  ∃ a:S34,RepL (Zw w) cs (qal.enc a)∧True:=by
 obtain ⟨xs,n,_,hx,hl,hxl,hf⟩:=DataW.trod_struct Tryz.underlying34 h
 have hc:Tryz.prog.cellsOf 34=11:=by kernel_rfl
 have c_T:Tryz.prog.cellsOf 32=4:=by kernel_rfl
 have c_i:Tryz.prog.cellsOf 3=1:=by kernel_rfl
 have c_s:Tryz.prog.cellsOf 9=1:=by kernel_rfl
 rw [hc] at hl
 obtain ⟨u0,u1,u2,u3,u4,u5,u6,u7,u8,u9,u10,rfl⟩:=L11 hl
 obtain ⟨x0,x1,x2,x3,x4,rfl⟩:=L5 hxl
 have h0:DataW.trod enc Tryz.prog w 0 (fun _=>true) true n 9 [u0]=some x0:=by have:=hf 0 _ rfl;simpa [c_T,c_i,c_s] using this
 have h1:DataW.trod enc Tryz.prog w 0 (fun _=>true) true n 3 [u1]=some x1:=by have:=hf 1 _ rfl;simpa [c_T,c_i,c_s] using this
 have h2:DataW.trod enc Tryz.prog w 0 (fun _=>true) true n 3 [u2]=some x2:=by have:=hf 2 _ rfl;simpa [c_T,c_i,c_s] using this
 have h3:DataW.trod enc Tryz.prog w 0 (fun _=>true) true n 32 [u3,u4,u5,u6]=some x3:=by have:=hf 3 _ rfl;simpa [c_T,c_i,c_s] using this
 have h4:DataW.trod enc Tryz.prog w 0 (fun _=>true) true n 32 [u7,u8,u9,u10]=some x4:=by have:=hf 4 _ rfl;simpa [c_T,c_i,c_s] using this
 obtain ⟨a0,e0,_,_⟩:=DataW.trod_string Tryz.underlying9 h0
 injection e0 with e0
 subst e0
 obtain ⟨a1,e1,_,_⟩:=DataW.trod_int Tryz.underlying3 h1
 injection e1 with e1
 subst e1
 obtain ⟨a2,e2,_,_⟩:=DataW.trod_int Tryz.underlying3 h2
 injection e2 with e2
 subst e2
 obtain ⟨a3,a4,a5,a6,e3⟩:=qkz h3
 simp only [List.cons.injEq,and_true] at e3
 obtain ⟨rfl,rfl,rfl,rfl⟩:=e3
 obtain ⟨a7,a8,a9,a10,e4⟩:=qkz h4
 simp only [List.cons.injEq,and_true] at e4
 obtain ⟨rfl,rfl,rfl,rfl⟩:=e4
 exact ⟨⟨a0,a1,a2,a3,a4,a5,a6,a7,a8,a9,a10⟩,⟨.str _,.int _ _,.int _ _,.int _ _,.int _ _,.int _ _,.int _ _,.int _ _,.int _ _,.int _ _,.int _ _,trivial⟩,trivial⟩
theorem qks {fuel:Nat} {cs:List Value} {y:DataW H×List MemPlace} (h:DataW.trod enc Tryz.prog w 0 (fun _=>true) true fuel 42 cs=some y) :
  ∃ a:S42,RepL (Zw w) cs (qam.enc a)∧a.Repeat_Weekdays.length≤9223372036854775807:=by
 obtain ⟨xs,n,_,hx,hl,hxl,hf⟩:=DataW.trod_struct Tryz.underlying42 h
 have hc:Tryz.prog.cellsOf 42=24:=by kernel_rfl
 have c_D:Tryz.prog.cellsOf 37=7:=by kernel_rfl
 have c_R:Tryz.prog.cellsOf 40=8:=by kernel_rfl
 have c_g:Tryz.prog.cellsOf 35=1:=by kernel_rfl
 have c_i:Tryz.prog.cellsOf 3=1:=by kernel_rfl
 have c_s:Tryz.prog.cellsOf 9=1:=by kernel_rfl
 rw [hc] at hl
 obtain ⟨u0,u1,u2,u3,u4,u5,u6,u7,u8,u9,u10,u11,u12,u13,u14,u15,u16,u17,u18,u19,u20,u21,u22,u23,rfl⟩:=L24 hl
 obtain ⟨x0,x1,x2,x3,x4,x5,x6,x7,x8,x9,x10,rfl⟩:=L11 hxl
 have h0:DataW.trod enc Tryz.prog w 0 (fun _=>true) true n 9 [u0]=some x0:=by have:=hf 0 _ rfl;simpa [c_D,c_R,c_g,c_i,c_s] using this
 have h1:DataW.trod enc Tryz.prog w 0 (fun _=>true) true n 3 [u1]=some x1:=by have:=hf 1 _ rfl;simpa [c_D,c_R,c_g,c_i,c_s] using this
 have h2:DataW.trod enc Tryz.prog w 0 (fun _=>true) true n 3 [u2]=some x2:=by have:=hf 2 _ rfl;simpa [c_D,c_R,c_g,c_i,c_s] using this
 have h3:DataW.trod enc Tryz.prog w 0 (fun _=>true) true n 9 [u3]=some x3:=by have:=hf 3 _ rfl;simpa [c_D,c_R,c_g,c_i,c_s] using this
 have h4:DataW.trod enc Tryz.prog w 0 (fun _=>true) true n 9 [u4]=some x4:=by have:=hf 4 _ rfl;simpa [c_D,c_R,c_g,c_i,c_s] using this
 have h5:DataW.trod enc Tryz.prog w 0 (fun _=>true) true n 9 [u5]=some x5:=by have:=hf 5 _ rfl;simpa [c_D,c_R,c_g,c_i,c_s] using this
 have h6:DataW.trod enc Tryz.prog w 0 (fun _=>true) true n 35 [u6]=some x6:=by have:=hf 6 _ rfl;simpa [c_D,c_R,c_g,c_i,c_s] using this
 have h7:DataW.trod enc Tryz.prog w 0 (fun _=>true) true n 9 [u7]=some x7:=by have:=hf 7 _ rfl;simpa [c_D,c_R,c_g,c_i,c_s] using this
 have h8:DataW.trod enc Tryz.prog w 0 (fun _=>true) true n 37 [u8,u9,u10,u11,u12,u13,u14]=some x8:=by have:=hf 8 _ rfl;simpa [c_D,c_R,c_g,c_i,c_s] using this
 have h9:DataW.trod enc Tryz.prog w 0 (fun _=>true) true n 3 [u15]=some x9:=by have:=hf 9 _ rfl;simpa [c_D,c_R,c_g,c_i,c_s] using this
 have h10:DataW.trod enc Tryz.prog w 0 (fun _=>true) true n 40 [u16,u17,u18,u19,u20,u21,u22,u23]=some x10:=by have:=hf 10 _ rfl;simpa [c_D,c_R,c_g,c_i,c_s] using this
 obtain ⟨a0,e0,_,_⟩:=DataW.trod_string Tryz.underlying9 h0
 injection e0 with e0
 subst e0
 obtain ⟨a1,e1,_,_⟩:=DataW.trod_int Tryz.underlying3 h1
 injection e1 with e1
 subst e1
 obtain ⟨a2,e2,_,_⟩:=DataW.trod_int Tryz.underlying3 h2
 injection e2 with e2
 subst e2
 obtain ⟨a3,e3,_,_⟩:=DataW.trod_string Tryz.underlying9 h3
 injection e3 with e3
 subst e3
 obtain ⟨a4,e4,_,_⟩:=DataW.trod_string Tryz.underlying9 h4
 injection e4 with e4
 subst e4
 obtain ⟨a5,e5,_,_⟩:=DataW.trod_string Tryz.underlying9 h5
 injection e5 with e5
 subst e5
 obtain ⟨a6,_,r6,_,_⟩:=qp7 (k:=2) qaj (fun _ _=>True) Tryz.underlying35 (by kernel_rfl) (by decide) h6 (fun fuel cs y _ hy=>qku hy)
 obtain ⟨a7,e7,_,_⟩:=DataW.trod_string Tryz.underlying9 h7
 injection e7 with e7
 subst e7
 obtain ⟨a8,a9,a10,a11,a12,a13,a14,e8⟩:=qkr h8
 simp only [List.cons.injEq,and_true] at e8
 obtain ⟨rfl,rfl,rfl,rfl,rfl,rfl,rfl⟩:=e8
 obtain ⟨a15,e9,_,_⟩:=DataW.trod_int Tryz.underlying3 h9
 injection e9 with e9
 subst e9
 obtain ⟨a16,a17,a18,a19,a20,a21,a22,a23,v5,v6,v7,e10,r21,r22,r23⟩:=qkx h10
 simp only [List.cons.injEq,and_true] at e10
 obtain ⟨rfl,rfl,rfl,rfl,rfl,rfl,rfl,rfl⟩:=e10
 have hlen:=sl_len r21
 rw [EC.encL_length] at hlen
 have hm:maxLen≤9223372036854775807:=by decide
 exact ⟨⟨a0,a1,a2,a3,a4,a5,a6,a7,a8,a9,a10,a11,a12,a13,a14,a15,a16,a17,a18,a19,a20,a21,a22,a23⟩,⟨.str _,.int _ _,.int _ _,.str _,.str _,.str _,r6,.str _,.int _ _,.int _ _,.int _ _,.int _ _,.int _ _,.int _ _,.int _ _,.int _ _,.int _ _,.int _ _,.int _ _,.int _ _,.bool _,r21,r22,r23,trivial⟩,Nat.le_trans hlen hm⟩
theorem q11 {τ:Type} {R:τ→Prop}:∀ {l:List τ} {ds:List (DataW H)},All2 (fun a _=>R a) l ds→∀ x∈l,R x
 |[],[],_=>by simp
 |a::l,d::ds,h=>by
  have h1:=q11 h.2
  exact fun x hx=>by
   rcases List.mem_cons.1 hx with rfl|hx
   ·exact h.1
   ·exact h1 x hx
 |[],_::_,h=>h.elim
 |_::_,[],h=>h.elim
theorem ql1 {d:DataW H} {p:List MemPlace} {v:Value} (h:DataW.Trod enc Tryz.prog w 0 (fun _=>true) true 23 v d p) (hv:∃ a n c,v=.slice a n c) :
  ∃ l:List S34,Rep (Zw w) (fun _ _=>none) noM v (.c (.sl (qal.encL l))):=by
 obtain ⟨a,n,c,rfl⟩:=hv
 obtain ⟨fuel,hf⟩:=h
 obtain ⟨l,ds,rc,_,_⟩:=qp7 (k:=11) qal (fun _ _=>True) Tryz.underlying23 (by kernel_rfl) (by decide) hf (fun fuel cs y _ hy=>ql0 hy)
 exact ⟨l,.c rc⟩
theorem qkt {d:DataW H} {p:List MemPlace} {v:Value} (h:DataW.Trod enc Tryz.prog w 0 (fun _=>true) true 22 v d p) (hv:∃ a n c,v=.slice a n c) :
  ∃ l:List S42,Rep (Zw w) (fun _ _=>none) noM v (.c (.sl (qam.encL l)))∧l.length≤maxLen∧∀ x∈l,x.Repeat_Weekdays.length≤9223372036854775807:=by
 obtain ⟨a,n,c,rfl⟩:=hv
 obtain ⟨fuel,hf⟩:=h
 obtain ⟨l,ds,rc,_,h2⟩:=qp7 (k:=24) qam (fun a _=>a.Repeat_Weekdays.length≤9223372036854775807) Tryz.underlying22 (by kernel_rfl) (by decide) hf (fun fuel cs y _ hy=>qks hy)
 have:=sl_len rc
 rw [EC.encL_length] at this
 exact ⟨l,.c rc,this,q11 h2⟩
theorem qkv {v:Value} (hv:∃ n,v=.int .i64 n):∃ n:Int,v=.int .i64 n∧Rep (Zw w) (fun _ _=>none) noM v (.c (.int .i64 n)):=by
 obtain ⟨n,rfl⟩:=hv
 exact ⟨n,rfl,.c (.int _ _)⟩
end
end Go.Proofs.YtjlkjiifkganoaaGreat
