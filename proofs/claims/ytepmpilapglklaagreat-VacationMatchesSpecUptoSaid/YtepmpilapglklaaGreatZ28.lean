/- What vacation.Reply answers, whole. -/
import Derived.Test.YtepmpilapglklaaGreatZ27
import Derived.Test.YtepmpilapglklaaGreatH3
namespace Go.Proofs.YtepmpilapglklaaGreat
open Go.RowKit
theorem q80 (l:List S44) (hl:l.length≤300):q3h l=some (l.length,l):=by
 cases l with
 |nil=>exact q3g
 |cons x t =>
  refine q3f ?_
  unfold q3i
  refine keyO _ _ ?_
  simp only [EC.decL_encL,EC.isL_encL,EC.encL_length,all_44]
  exact qn1 rfl (qn1 (by simp only [List.length_cons] at *;simp;omega) (qn1 rfl (qn2 rfl)))
theorem len_rp (l:List S44) {k:Nat} (h:k<l.length):((q9h.encL l).getD k []).length=2:=by rw [EC.getD_lt _ _ h];rfl
def oldR (now:Int) (x:S44):Bool:=decide (604800≤IntKind.i64.wrap (now - x.At))
def newR (now:Int) (x:S44):Bool:=!oldR now x
theorem old_s (x:S44) (now:Int):qwe x.Sender x.At now=some (oldR now x):=qwd rfl
theorem q34 (l:List S44):(q9h.encL l).all repB=true:=by
 induction l with
 |nil=>rfl
 |cons x l ih =>
  have e:q9h.encL (x::l)=q9h.enc x::q9h.encL l:=rfl
  rw [e,List.all_cons,ih];rfl
theorem qxi (l:List S44):((q9h.encL l).map zeroR).all repB=true:=by
 induction l with
 |nil=>rfl
 |cons x l ih =>
  have e:q9h.encL (x::l)=q9h.enc x::q9h.encL l:=rfl
  rw [e,List.map_cons,List.all_cons,ih];rfl
theorem qce (now:Int) (l:List S44):(q9h.encL l).filter (newB now)=q9h.encL (l.filter (newR now)):=by
 induction l with
 |nil=>rfl
 |cons x l ih =>
  have e1:q9h.encL (x::l)=q9h.enc x::q9h.encL l:=rfl
  have e2:newB now (q9h.enc x)=newR now x:=rfl
  rw [e1,List.filter_cons,List.filter_cons,e2,ih]
  split <;> rfl
theorem q9p (l:List S44):(q9h.encL l).isEmpty=l.isEmpty:=by cases l <;> rfl
theorem qxh (l:List S44):((q9h.encL l).map zeroR).isEmpty=l.isEmpty:=by cases l <;> rfl
theorem qn4 (a:ByteArray) (n:Int):([[C.str a,C.int .i64 n]]:List (List C))=q9h.encL [⟨a,n⟩]:=rfl
abbrev MailT:=ByteArray×List S81×ByteArray×List S57×List Int
def eB:ByteArray:=ByteArray.mk (List.toArray [])
def nulM:MailT:=(eB,[],eB,[],[])
def repM (f:List S57) (fr i me t:ByteArray):MailT:=(eB,[⟨fr,0⟩],cRep++i,repF f fr me,bodyF t)
def dueB (r:List S44) (fr:ByteArray) (f:List S57) (me:ByteArray) (now:Int):Bool:=!em fr&&(!(lowL (L fr)==lowL (L me))&&(!automB f&&!(atB r fr&&!oldR now (atR r fr))))
def keepR (r:List S44) (now:Int):List S44:=r.filter (newR now)
def insR (q:List S44) (fr:ByteArray) (now:Int):List S44:=q.take (lb q fr)++([⟨fr,now⟩]++q.drop (lb q fr))
def setR (r:List S44) (fr:ByteArray) (now:Int):List S44:=r.set (lb r fr) { atR r fr with At:=now }
abbrev OutT:=List S44×MailT×Bool×(Int×Int)
noncomputable def ansT (r:List S44) (fr i:ByteArray) (f:List S57) (me t:ByteArray) (now:Int):OutT :=
 if (EV eB [⟨fr,0⟩] (cRep++i)).1≠0 then ([],nulM,false,((EV eB [⟨fr,0⟩] (cRep++i)).1,-7)) else if (MV (repF f fr me) (bodyF t)).1≠0 then ([],nulM,false,((MV (repF f fr me) (bodyF t)).1,-7)) else
 if atB r fr=true then (setR r fr now,repM f fr i me t,true,(0,0)) else if (keepR r now).length=300 then ([],nulM,false,(2,-1)) else (insR (keepR r now) fr now,repM f fr i me t,true,(0,0))
noncomputable def ans (r:List S44) (fr:ByteArray) (rc:List S81) (i:ByteArray) (f:List S57) (b:List Int) (me t:ByteArray) (now:Int):OutT :=
 if (vld r fr rc i f b me t now).1≠0 then ([],nulM,false,vld r fr rc i f b me t now) else if dueB r fr f me now=false then (r,nulM,false,(0,0)) else ansT r fr i f me t now
theorem q6h (t:ByteArray) (ht:t.size≤4000):(bodyF t).length≤2000000:=by
 unfold bodyF
 rw [List.length_map]
 have:=qke (L t)
 rw [qj] at this
 omega
theorem qr0 {r:List S44} (h:srt r) (now:Int):srt (keepR r now):=List.Pairwise.filter _ h
theorem qje (r:List S44) (now:Int):(keepR r now).length≤r.length:=List.length_filter_le _ _
theorem ans_s {r : List S44} {fr : ByteArray} {rc : List S81} {i : ByteArray} {b : List Int} {me : ByteArray} (h : VArg r fr rc i b me) (f : List S57) (t : ByteArray) (now : Int) :
    quy r fr rc i f b me t now = some (ans r fr rc i f b me t now) := qux (by
  unfold quz
  refine keyO _ _ ?_
  simp only [EC.decL_encL, EC.isL_encL, EC.encL_length, qy7, q3n, q3o, qq0, qxx]
  refine qn1 rfl (qn1 rfl (qn1 rfl (qn1 rfl (qmy (qn0 (qwt h f t now)) fun r0 hr0 => qmy (qn0 (qc9 _ _)) fun r1 hr1 => ?_))))
  subst hr0
  subst hr1
  unfold ans
  refine qmz (fun g => qn2 ?_) (fun g => ?_)
  · rw [if_pos (by simpa using g)]; rfl
  have g0 : (vld r fr rc i f b me t now).1 = 0 := by simpa using g
  obtain ⟨v, _⟩ := vld_ok h g0
  rw [if_neg (by simpa using g0)]
  refine qn1 rfl (qmy (qn0 (find_s v.hsrt (by have := v.len; omega) fr)) fun r2 hr2 => qn1 rfl (qmy (qn0 (q80 r v.len)) fun r3 hr3 => ?_))
  subst hr2
  subst hr3
  have hn : ∀ {p : OutT → Prop}, p (r, nulM, false, (0, 0)) → Ok (Option.bind q5t fun x => gdE true (some (r, ((ByteArray.mk (List.toArray [])), ([] : List S81), (ByteArray.mk (List.toArray [])), ([] : List S57), ([] : List Int)), false, (x.1, x.2)))) p := by
    intro p hp
    exact qmy qms fun x hx => qn1 rfl (qn2 (by subst hx; exact hp))
  have nd : dueB r fr f me now = false → (r, nulM, false, ((0 : Int), (0 : Int))) = (if dueB r fr f me now = false then (r, nulM, false, (0, 0)) else ansT r fr i f me t now) := by
    intro hd; rw [if_pos hd]
  refine qmz (fun g1 => ?_) (fun g1 => hn (nd ?_))
  · have g1 : em fr = false := by simpa using g1
    refine qmy (qn0 (same_s fr me (by have := h.hfr; omega) (by have := h.hme; omega))) fun r4 hr4 => qmz (fun g2 => ?_) (fun g2 => hn (nd ?_))
    · have g2 : (lowL (L fr) == lowL (L me)) = false := by rw [← hr4]; simpa using g2
      refine qn1 rfl (qmy (qn0 (q3v v.hdr)) fun r5 hr5 => qmz (fun g3 => ?_) (fun g3 => hn (nd ?_)))
      · have g3 : automB f = false := by rw [← hr5]; simpa using g3
        have hrep := qon fr rc i v.hdr b me t h.hfr (by have := h.hi; omega) h.hme (by have := v.txt; omega)
        have hi6 : (cRep ++ i).size ≤ 2000000 := by rw [ByteArray.size_append]; have : cRep.size = 6 := rfl; have := h.hi; omega
        have hev := ev_s eB [⟨fr, 0⟩] (cRep ++ i) (by decide) (by simp) (fun x hx => by
          have : x = ⟨fr, 0⟩ := by simpa using hx
          rw [this]; exact h.hfr)
        have hmv := (mv_s (repF f fr me) (bodyF t) (q6h t v.txt)).1
        have hf2 : qw2 r fr = some ((lb r fr : Int), atB r fr) := find_s v.hsrt (by have := v.len; omega) fr
        refine qmz (fun g4 => ?_) (fun g4 => ?_)
        · have g4 : atB r fr = true := by simpa using g4
          obtain ⟨a1, a2⟩ := q3m g4
          simp only [Int.toNat_natCast]
          refine qn1 (by simp) (qn1 (by simp [a1]) (qmy (qn0 (old_s _ now)) fun r6 hr6 => qmz (fun g5 => hn (nd ?_)) (fun g5 => ?_)))
          · have g5 : oldR now (atR r fr) = false := by rw [show oldR now (atR r fr) = r6 from hr6.symm]; simpa using g5
            unfold dueB
            rw [g4, g5]; simp
          · have g5 : oldR now (atR r fr) = true := by rw [show oldR now (atR r fr) = r6 from hr6.symm]; simpa using g5
            have hd : dueB r fr f me now = true := by unfold dueB; rw [g1, g2, g3, g4, g5]; rfl
            rw [hd, if_neg (by decide)]
            refine qn1 rfl (qn1 rfl (qn1 rfl (qmy (qn0 hrep) fun r7 hr7 => ?_)))
            subst hr7
            refine qn1 rfl ?_
            refine qmy (qn0 hev) fun r8 hr8 => qmy (qn0 (qc9 _ _)) fun r9 hr9 => ?_
            subst hr8
            subst hr9
            unfold ansT
            refine qmz (fun g6 => ?_) (fun g6 => ?_)
            · have g6 : (EV eB [⟨fr, 0⟩] (cRep ++ i)).1 = 0 := by simpa using g6
              rw [if_neg (by simpa using g6)]
              refine qn1 rfl (qn1 rfl (qmy (qn0 hmv) fun r10 hr10 => qmy (qn0 (qc9 _ _)) fun r11 hr11 => ?_))
              subst hr10
              subst hr11
              refine qmz (fun g7 => ?_) (fun g7 => ?_)
              · rw [if_pos (by simpa using g7)]
                exact qmy (qcb _ _) fun x hx => qn2 (by subst hx; rfl)
              rw [if_neg (by simpa using g7)]
              refine qmz (fun g8 => ?_) (fun g8 => ?_)
              · rw [if_pos g4]
                refine qn1 (by simp; omega) (qn1 (by rw [len_rp r a1]; simp [a1]) (qmy qms fun x hx => qn1 rfl (qn1 rfl (qn1 rfl (qn1 rfl (qn2 ?_))))))
                subst hx
                rfl
              · exact absurd g8 (by rw [g4]; intro h9; cases h9)
            · have g6 : (EV eB [⟨fr, 0⟩] (cRep ++ i)).1 ≠ 0 := by simpa using g6
              rw [if_pos g6]
              refine qmy (qn0 (qc9 _ _)) fun r10 hr10 => ?_
              subst hr10
              refine qmz (fun g7 => qmy (qcb _ _) fun x hx => qn2 (by subst hx; rfl)) (fun g7 => absurd g7 (by simpa using g6))
        · have g4 : atB r fr = false := by simpa using g4
          have hd : dueB r fr f me now = true := by unfold dueB; rw [g1, g2, g3, g4]; rfl
          rw [hd, if_neg (by decide)]
          refine qn1 rfl (qn1 rfl (qn1 rfl (qmy (qn0 hrep) fun r7 hr7 => ?_)))
          subst hr7
          refine qn1 rfl ?_
          refine qmy (qn0 hev) fun r8 hr8 => qmy (qn0 (qc9 _ _)) fun r9 hr9 => ?_
          subst hr8
          subst hr9
          unfold ansT
          refine qmz (fun g6 => ?_) (fun g6 => ?_)
          · have g6 : (EV eB [⟨fr, 0⟩] (cRep ++ i)).1 = 0 := by simpa using g6
            rw [if_neg (by simpa using g6)]
            refine qn1 rfl (qn1 rfl (qmy (qn0 hmv) fun r10 hr10 => qmy (qn0 (qc9 _ _)) fun r11 hr11 => ?_))
            subst hr10
            subst hr11
            refine qmz (fun g7 => ?_) (fun g7 => ?_)
            · rw [if_pos (by simpa using g7)]
              exact qmy (qcb _ _) fun x hx => qn2 (by subst hx; rfl)
            rw [if_neg (by simpa using g7)]
            refine qmz (fun g8 => ?_) (fun g8 => ?_)
            · exact absurd g8 (by rw [g4]; intro h9; cases h9)
            · rw [if_neg (by rw [g4]; decide)]
              rw [q34]
              simp only [qce, q9p, qxh, qxi, EC.encL_length, EC.isL_encL, EC.decL_encL]
              have hk : r.filter (newR now) = keepR r now := rfl
              rw [hk]
              have hkl := qje r now
              have hl3 := v.len
              refine qn1 rfl (qmz (fun g9 => ?_) (fun g9 => ?_))
              · have g9 : (keepR r now).isEmpty = true ∧ r.isEmpty = false := by simpa using g9
                have g10 : keepR r now = [] := by simpa using g9.1
                have hfe := find_s (l := ([] : List S44)) .nil (by simp) fr
                refine qmy (qn0 hfe) fun x hx => ?_
                subst hx
                refine qn1 (by rw [g9.2]; rfl) (qmy qms fun x hx => qn1 rfl (qn1 rfl (qn1 rfl (qn2 ?_))))
                subst hx
                rw [g10, if_neg (by decide)]; rfl
              · refine qmz (fun g10 => ?_) (fun g10 => ?_)
                · have g10 : (keepR r now).length = 300 := by have : ((keepR r now).length : Int) = 300 := by simpa using g10
                                                              omega
                  rw [if_pos g10]
                  exact qmy (qcb _ _) fun x hx => qn2 (by subst hx; rfl)
                · have g10 : (keepR r now).length ≠ 300 := by intro h9; rw [h9] at g10; cases g10
                  rw [if_neg g10]
                  refine qn1 rfl (qmy (qn0 (find_s (qr0 v.hsrt now) (by omega) fr)) fun x hx => ?_)
                  subst hx
                  have hlb := lb_le (keepR r now) fr
                  refine qn1 (by rw [q34]; simp; refine ⟨⟨?_, hlb⟩, by omega⟩; rfl) (qmy qms fun x hx => ?_)
                  subst hx
                  simp only [Int.toNat_natCast, qn4, qf, qd, q9o, EC.isL_encL, EC.decL_encL]
                  exact qn1 rfl (qn1 rfl (qn1 rfl (qn1 rfl (qn2 rfl))))
          · have g6 : (EV eB [⟨fr, 0⟩] (cRep ++ i)).1 ≠ 0 := by simpa using g6
            rw [if_pos g6]
            refine qmy (qn0 (qc9 _ _)) fun r10 hr10 => ?_
            subst hr10
            refine qmz (fun g7 => qmy (qcb _ _) fun x hx => qn2 (by subst hx; rfl)) (fun g7 => absurd g7 (by simpa using g6))
      · have g3 : automB f = true := by rw [← hr5]; simpa using g3
        unfold dueB
        rw [g3]; simp
    · have g2 : (lowL (L fr) == lowL (L me)) = true := by rw [← hr4]; simpa using g2
      unfold dueB
      rw [g2]; simp
  · have g1 : em fr = true := by simpa using g1
    unfold dueB
    rw [g1]; simp)
end Go.Proofs.YtepmpilapglklaaGreat
namespace Go.Proofs.YtepmpilapglklaaGreat
open Go.RowKit
set_option maxRecDepth 1000000 in
theorem qpv:callD Tryz.prog (fzL lv) X0.c (execD Tryz.prog lv X0 200) 20 []=some (.c (.bool true),[]):=by kernel_rfl
def scr_ca:Cod (List V) Unit:=qjm
def scr_cr:Cod (V×List B) Bool:=cFstU (cPair (vC cBool) qjm)
def scrS:Option Bool:=some true
theorem qpu (x:Unit) (r:Bool) (h:scrS=some r):Call Tryz.prog lv X0 20 (scr_ca.enc x)=some (scr_cr.enc r):=by
 cases r with
 |true=>exact qa qpv
 |false=>unfold scrS at h;cases h
noncomputable def scr_e:=entS Tryz.prog lv X0 20 [] scr_ca scr_cr (fun _=>scrS) qpu
noncomputable def tabk:=scr_e::q16l
end Go.Proofs.YtepmpilapglklaaGreat
