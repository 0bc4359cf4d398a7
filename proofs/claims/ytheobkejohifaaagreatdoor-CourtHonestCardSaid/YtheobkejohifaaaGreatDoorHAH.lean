/- sortesref01: slices of digits and what follows. -/
import Derived.Test.YtheobkejohifaaaGreatDoorHAG
import Derived.Test.YtheobkejohifaaaGreatDoorHAE
import Derived.Test.YtheobkejohifaaaGreatDoorHAD
namespace Go.Proofs.YtheobkejohifaaaGreatDoor
open Go.RowKit
set_option maxRecDepth 100000
def digV (d:Nat):Value:=.int .i64 (d:Int)
def pah (l:List Nat):List Value:=l.map digV
def Sl (w:World) (v:Value) (l:List Nat):Prop:=∃ ao cap,v=.slice ao l.length cap∧l.length≤cap∧cap≤maxLen∧(l.length=0∨∃ b,ao=some ⟨b,0,none⟩∧b<w.heap.size∧∀ (j d:Nat),l[j]? =some d→w.cell? ⟨b,j,none⟩=some (.int .i64 (d:Int)))
theorem Sl.nil (w:World):Sl w (.slice none 0 0) []:=⟨none,0,rfl,Nat.le_refl _,by simp,.inl rfl⟩
theorem Sl.upd {w w':World} {v:Value} {l:List Nat} (h:Sl w v l) (u:Upd [] [] w w'):Sl w' v l:=by
 obtain ⟨ao,cap,rfl,h1,h2,h3⟩:=h
 refine ⟨ao,cap,rfl,h1,h2,?_⟩
 rcases h3 with h3 | ⟨b,rfl,hb,hc⟩
 · exact .inl h3
 · exact .inr ⟨b,rfl,Nat.lt_of_lt_of_le hb u.size,fun j d hj=>(u.cell hb (by simp)).trans (hc j d hj)⟩
theorem Sl.of_row {w:World} {v:Value} {l:List Nat} {t:TypeId} (h:w.ownsRow 0 t 1 v l.length (pah l)):Sl w v l:=by
 by_cases h0:l.length=0
 · obtain ⟨ao,cap,rfl,h1,h2⟩:=paj h
   exact ⟨ao,cap,rfl,h1,h2,.inl h0⟩
 · obtain ⟨g,cap,cur,rfl,hg,h1,h2,h3,h4⟩:=pcd h (by omega)
   refine ⟨_,cap,rfl,h1,h2,.inr ⟨g,rfl,(Array.getElem?_eq_some_iff.1 hg).1,fun j d hj=>?_⟩⟩
   have hjl:=(List.getElem?_eq_some_iff.1 hj).1
   rw [cell_of_row w g j _ _ _ hg]
   have e:(pah l)[j]? =some (digV d):=by simp [pah,hj]
   rw [← h4,Nat.mul_one,List.getElem?_take_of_lt hjl] at e
   simpa [digV] using e
def pmj:Value→Nat
 | .slice _ n _=>n
 | _=>0
theorem pmk (v:Value) (l:List Nat) (w:World) (h:Sl w v l) (hl:okL l):Calls Tryz.prog 126 #[v] w (fun e w'=>∃ v',Hid (Sl w v' (dg (valL l))∧foot v'=foot v)∧e=.returned v'∧w=w'):=by
 obtain ⟨ao,cap,rfl,h1,h2,h3⟩:=h
 obtain ⟨n,hn⟩:∃ n,n=l.length:=⟨_,rfl⟩
 rw [← hn] at h1 h3
 rw [← hn]
 unfold maxLen at h2
 have H3:=Lib.hid h3
 have HN:=Lib.hid hn
 clear h3 hn
 go_enter Tryz.func126,Tryz.ntmps126
 go_wp2_with fail
 go_loop [0] (fun v=>∃ m:Nat,v=.slice ao m cap∧m≤n∧Hid (valL (l.take m)=valL l)) (fun v=>pmj v)
 case atStart=>exact ⟨n,rfl,Nat.le_refl _,by show _=_;rw [HN.out,List.take_length]⟩
 case round =>
  obtain ⟨m,rfl,hm,HM⟩:=hrel
  have hend:∀ k,k≤n→valL (l.take k)=valL l→(∀ d,(l.take k).getLast? =some d→d≠0)→Sl w (.slice ao k cap) (dg (valL l)):=by
   intro k hk hv hlast
   have hd:=pf2 (pjT hl k) hlast
   rw [hv] at hd
   have hlen:(dg (valL l)).length=k:=by rw [← hd,List.length_take,← HN.out];omega
   refine ⟨ao,cap,by rw [hlen],by omega,by simp only [maxLen];omega,?_⟩
   rcases H3.out with h3 | ⟨b,rfl,hb,hc⟩
   · exact .inl (by omega)
   · refine .inr ⟨b,rfl,hb,fun j d hj=>hc j d ?_⟩
     rw [← hd,List.getElem?_take] at hj
     split at hj
     · exact hj
     · cases hj
  have HE:=Lib.hid hend
  clear hend
  by_cases h0:0<m
  · obtain ⟨k,rfl⟩:∃ k,m=k+1:=⟨m - 1,by omega⟩
    obtain ⟨b,rfl,hb,hc⟩:∃ b,ao=some ⟨b,0,none⟩∧b<w.heap.size∧∀ (j d:Nat),l[j]? =some d→w.cell? ⟨b,j,none⟩=some (.int .i64 (d:Int)):=by
     rcases H3.out with h | h
     · omega
     · exact h
    have hkl:k<l.length:=by have:=HN.out;omega
    have hk0:=hc k l[k] (List.getElem?_eq_getElem hkl)
    obtain ⟨d,hd⟩:∃ d,d=l[k]:=⟨_,rfl⟩
    rw [← hd] at hk0
    have hst:l[k]? =some d:=by rw [hd];exact List.getElem?_eq_getElem hkl
    have HST:=Lib.hid hst
    clear hc hkl hd hst
    have hki:((k+1:Nat):Int) - 1=(k:Int):=by omega
    by_cases hd0:d=0
    · subst hd0
      go_wp2_with fail
      refine ⟨⟨k,rfl,by omega,?_⟩,by simp [pmj]⟩
      show _=_
      rw [← HM.out,pdD HST.out,pci,Nat.mul_zero,Nat.add_zero]
    · have hb0:((d:Int) == 0)=false:=by rw [beq_eq_false_iff_ne];omega
      have hfin:=HE.out (k+1) hm HM.out (fun x hx=>by
       rw [pdD HST.out,List.getLast?_concat] at hx
       simp only [Option.some.injEq] at hx
       omega)
      have HF:=Lib.hid hfin
      clear hfin hd0
      go_wp2_with fail
      go_ret
      exact ⟨_,⟨HF.out,rfl⟩,rfl,rfl⟩
  · obtain rfl:m=0:=by omega
    have hfin:=HE.out 0 hm HM.out (fun x hx=>by simp at hx)
    have HF:=Lib.hid hfin
    clear hfin
    go_wp2_with fail
    go_ret
    exact ⟨_,⟨HF.out,by cases ao <;> rfl⟩,rfl,rfl⟩
theorem pj0 (v:Value) (l:List Nat) (w:World) (h:Sl w v l) (hl:okL l):Calls Tryz.prog 126 #[v] w (fun e w'=>∃ v',Hid (Sl w v' (dg (valL l)))∧e=.returned v'∧w=w'):=by
 refine (pmk v l w h hl).mono ?_
 rintro e w' ⟨v',HV,he,hw⟩
 exact ⟨v',HV.out.1,he,hw⟩
theorem Sl.get {w:World} {ao:Option Addr} {n cap:Nat} {l:List Nat} (h:Sl w (.slice ao n cap) l) {k d:Nat} (hk:l[k]? =some d):∃ b,ao=some ⟨b,0,none⟩∧w.cell? ⟨b,k,none⟩=some (.int .i64 (d:Int)):=by
 obtain ⟨ao',cap',e,h1,h2,h3⟩:=h
 simp only [Value.slice.injEq] at e
 obtain ⟨rfl,rfl,rfl⟩:=e
 have hkl:=(List.getElem?_eq_some_iff.1 hk).1
 rcases h3 with h3 | ⟨b,rfl,hb,hc⟩
 · omega
 · exact ⟨b,rfl,hc k d hk⟩
theorem Sl.form {w:World} {v:Value} {l:List Nat} (h:Sl w v l):∃ ao cap,v=.slice ao l.length cap∧l.length≤cap∧cap≤9223372036854775807:=by
 obtain ⟨ao',cap',e,h1,h2,h3⟩:=h
 exact ⟨ao',cap',e,h1,h2⟩
def poh (x y:Nat) (r:Int):Prop:=(r<0 ↔ x<y)∧(0<r ↔ y<x)
set_option maxHeartbeats 1000000 in
theorem pml (u v:Value) (x y:Nat) (w:World) (hu:Sl w u (dg x)) (hv:Sl w v (dg y)):Calls Tryz.prog 127 #[u,v] w (fun e w'=>∃ r:Int,Hid (poh x y r)∧(-9223372036854775808≤r∧r≤9223372036854775807)∧e=.returned (.int .i64 r)∧Upd [] [] w w'):=by
 obtain ⟨ao,cap,rfl,hu1,hu2⟩:=hu.form
 obtain ⟨bo,cbp,rfl,hv1,hv2⟩:=hv.form
 obtain ⟨n,hn⟩:∃ n,n=(dg x).length:=⟨_,rfl⟩
 obtain ⟨m,hm⟩:∃ m,m=(dg y).length:=⟨_,rfl⟩
 rw [← hn] at hu1 hu
 rw [← hm] at hv1 hv
 rw [← hn,← hm]
 have HU:=Lib.hid hu
 have HV:=Lib.hid hv
 have HN:=Lib.hid hn
 have HM:=Lib.hid hm
 clear hu hv hn hm
 by_cases hnm:n=m
 case neg =>
  have hb:((n:Int) != (m:Int))=true:=by rw [bne_iff_ne];omega
  have hb2:((n:Int) == (m:Int))=false:=by rw [beq_eq_false_iff_ne];omega
  have hb3:(n == m)=false:=by rw [beq_eq_false_iff_ne];omega
  have hc:poh x y ((n:Int) - (m:Int)):=by
   rcases Nat.lt_or_ge n m with h | h
   · have:=pfa (x:=x) (y:=y) (by rw [← HN.out,← HM.out];exact h)
     exact ⟨⟨fun _=>this,fun _=>by omega⟩,⟨fun h=>by omega,fun h=>by omega⟩⟩
   · have:=pfa (x:=y) (y:=x) (by rw [← HN.out,← HM.out];omega)
     exact ⟨⟨fun h=>by omega,fun h=>by omega⟩,⟨fun _=>this,fun _=>by omega⟩⟩
  have HC:=Lib.hid hc
  clear hc hnm
  go_enter Tryz.func127,Tryz.ntmps127
  go_wp2_with fail
  go_ret
  exact ⟨_,HC.out,⟨by omega,by omega⟩,rfl,Upd.refl _ _⟩
 case pos =>
  subst hnm
  go_enter Tryz.func127,Tryz.ntmps127
  go_wp2_with fail
  go_loopw [5] (fun i wr=>∃ (z:Int) (k:Nat),i=.int .i64 z∧z+1=(k:Int)∧k≤n∧Hid ((dg x).drop k=(dg y).drop k)∧Hid (Upd [] [] w wr)) (fun i _=>(intOf i+1).toNat)
  case atStart=>exact ⟨(n:Int) - 1,n,rfl,by omega,Nat.le_refl _,by show _=_;rw [List.drop_of_length_le (by rw [HN.out];omega),List.drop_of_length_le (by rw [HM.out];omega)],Upd.refl _ _⟩
  case round =>
   obtain ⟨z,k,rfl,hz,hk,HK,HUP⟩:=hrel
   by_cases h0:0<k
   · obtain ⟨j,rfl⟩:∃ j,k=j+1:=⟨k - 1,by omega⟩
     obtain rfl:z=(j:Int):=by omega
     have hjx:j<(dg x).length:=by rw [← HN.out];omega
     have hjy:j<(dg y).length:=by rw [← HM.out];omega
     obtain ⟨a,ha⟩:∃ a,(dg x)[j]? =some a:=⟨_,List.getElem?_eq_getElem hjx⟩
     obtain ⟨b,hb⟩:∃ b,(dg y)[j]? =some b:=⟨_,List.getElem?_eq_getElem hjy⟩
     have ha2:a<16777216:=pdY x a (List.mem_of_getElem? ha)
     have hb2:b<16777216:=pdY y b (List.mem_of_getElem? hb)
     obtain ⟨g1,rfl,c1⟩:=(HU.out.upd HUP.out).get ha
     obtain ⟨g2,rfl,c2⟩:=(HV.out.upd HUP.out).get hb
     have HA:=Lib.hid ha
     have HB:=Lib.hid hb
     clear hjx hjy ha hb hz
     by_cases hab:a=b
     · subst hab
       have hst:(dg x).drop j=(dg y).drop j:=by
        obtain ⟨h1,e1⟩:=List.getElem?_eq_some_iff.1 HA.out
        obtain ⟨h2,e2⟩:=List.getElem?_eq_some_iff.1 HB.out
        rw [List.drop_eq_getElem_cons h1,List.drop_eq_getElem_cons h2,e1,e2,HK.out]
       have HST:=Lib.hid hst
       clear hst
       go_wp2_with fail
       go_quiet (fail)
       go_wp2_with fail
       exact ⟨⟨(j:Int) - 1,j,rfl,by omega,by omega,HST.out,HUP.out.drewN _⟩,by simp only [intOf];omega⟩
     · have hb1:((a:Int) != (b:Int))=true:=by rw [bne_iff_ne];omega
       have hb3:((a:Int) == (b:Int))=false:=by rw [beq_eq_false_iff_ne];omega
       have hc:poh x y ((a:Int) - (b:Int)):=by
        have ex:=pa9 x
        have ey:=pa9 y
        rcases Nat.lt_or_ge a b with h | h
        · have:=pl6 (pdY x) HK.out HA.out HB.out h
          rw [ex,ey] at this
          exact ⟨⟨fun _=>this,fun _=>by omega⟩,⟨fun h=>by omega,fun h=>by omega⟩⟩
        · have:=pl6 (pdY y) HK.out.symm HB.out HA.out (by omega)
          rw [ex,ey] at this
          exact ⟨⟨fun h=>by omega,fun h=>by omega⟩,⟨fun _=>this,fun _=>by omega⟩⟩
       have HC:=Lib.hid hc
       clear hc hab
       go_wp2_with fail
       go_quiet (fail)
       go_wp2_with fail
       go_quiet (fail)
       go_wp2_with fail
       go_ret
       exact ⟨_,HC.out,⟨by omega,by omega⟩,rfl,(HUP.out.drewN _).drewN _⟩
   · obtain rfl:k=0:=by omega
     obtain rfl:z=-1:=by omega
     have hxy:x=y:=by
      have:=HK.out
      rw [List.drop_zero,List.drop_zero] at this
      rw [← pa9 x,this,pa9]
     have hc:poh x y 0:=by
      subst hxy
      exact ⟨⟨fun h=>by omega,fun h=>by omega⟩,⟨fun h=>by omega,fun h=>by omega⟩⟩
     have HC:=Lib.hid hc
     clear hc hxy hz
     go_wp2_with fail
     go_ret
     exact ⟨_,HC.out,⟨by omega,by omega⟩,rfl,HUP.out⟩
theorem pfd:∃ i,Tryz.prog.info? 3=some i∧i.zero=some (.int .i64 0)∧i.size=1∧i.bytes=8:=by
 have h:(Tryz.prog.info? 3).map (fun i=>(i.zero,i.size,i.bytes))=some (some (.int .i64 0),1,8):=by kernel_rfl
 obtain ⟨i,hi,he⟩:=Option.map_eq_some_iff.1 h
 simp only [Prod.mk.injEq] at he
 exact ⟨i,hi,he.1,he.2.1,he.2.2⟩
theorem paV (wr:World) (v:Value) (k:Nat) (xs:List Value) (x:Int) (hown:wr.ownsRow 0 3 1 v k xs) (hk:k<1099511627776) :
 ∃ v' w',(Builtin.append_ #[22,22] 22 #[v,.slice (some ⟨wr.heap.size,0,none⟩) 1 1]).run Tryz.prog (wr.alloc (.cells #[.int .i64 x] 3))=.ok v' w'∧w'.ownsRow 0 3 1 v' (k+1) (xs ++ [.int .i64 x])∧Upd (foot v) (foot v') wr w':=by
 have hrow:(wr.alloc (.cells #[.int .i64 x] 3)).ownsRow 0 3 1 v k xs:=pai hown (fun j hj=>Below.heap_alloc _ _ _ (paf hown j hj))
 have hw1:(wr.alloc (.cells #[.int .i64 x] 3)).heap[wr.heap.size]? =some (.cells #[.int .i64 x] 3 (0,0)):=heap_alloc_new _ _
 obtain ⟨iu,u1,u2,u3',u4⟩:=pfd
 obtain ⟨v',w',hrun,hown',hup'⟩:=paY (P:=Tryz.prog) (wr.alloc (.cells #[.int .i64 x] 3)) 22 22 3 iu (.int .i64 0) 1 8 Tryz.underlying22 u1 u2 u3' u4 rfl (by omega) v k _ hrow ⟨wr.heap.size,0,none⟩ 1 1 [.int .i64 x] rfl (by
  intro j u hj
  have:j=0:=by
   cases j with
   | zero=>rfl
   | succ j=>simp at hj
  subst this
  simp only [List.getElem?_cons_zero,Option.some.injEq] at hj
  subst hj
  have e:(⟨wr.heap.size,0,none⟩:Addr).add 0=⟨wr.heap.size,0,none⟩:=by simp [Addr.add]
  rw [e,cell_of_row _ _ _ _ _ _ hw1]
  rfl) (by intro u hu;simp at hu;subst hu;rfl) (by omega) (by simp only [maxLen];omega)
 exact ⟨v',w',hrun,hown',((Upd.refl _ _).alloc _).trans hup'⟩
theorem paO (l:List Nat) (d:Nat):pah (l ++ [d])=pah l ++ [.int .i64 (d:Int)]:=by simp [pah,digV]
set_option maxHeartbeats 2000000 in
theorem phD (u:Value) (x d:Nat) (w:World) (hu:Sl w u (dg x)) (hd:d<16777216) (hx:(dg x).length≤1000000000):Calls Tryz.prog 130 #[u,.int .i64 (d:Int)] w (fun e w'=>∃ v',Hid (Sl w' v' (dg (x * d)))∧e=.returned v'∧Upd [] [] w w'):=by
 obtain ⟨ao,cap,rfl,hu1,hu2⟩:=hu.form
 obtain ⟨n,hn⟩:∃ n,n=(dg x).length:=⟨_,rfl⟩
 rw [← hn] at hu1 hu hx
 rw [← hn]
 have HU:=Lib.hid hu
 have HN:=Lib.hid hn
 clear hu hn
 go_enter Tryz.func130,Tryz.ntmps130
 go_wp2_with fail
 go_loopw [5,6,7] (fun o c i wr=>∃ (k cy:Nat) (out:List Nat),i=.int .i64 (k:Int)∧c=.int .i64 (cy:Int)∧k≤n∧cy<16777216∧Hid (out.length=k∧okL out∧valL out+16777216 ^ k * cy=valL ((dg x).take k) * d)∧Hid (wr.ownsRow 0 3 1 o k (pah out))∧Hid (Upd [] (foot o) w wr)) (fun _ _ i _=>n - (intOf i).toNat)
 case atStart=>exact ⟨0,0,[],rfl,rfl,Nat.zero_le _,by omega,⟨rfl,pe9,by simp [valL]⟩,⟨by simp [pah],.inl ⟨rfl,rfl⟩⟩,Upd.refl _ _⟩
 case round =>
  obtain ⟨k,cy,out,rfl,rfl,hk,hcy,HI,HR,HUP⟩:=hrel
  have hup0:Upd [] [] w wr:=HUP.out.mono (fun _ h=>h) (fun _ h=>absurd h (by simp))
  by_cases hlt:k<n
  · have hkx:k<(dg x).length:=by rw [← HN.out];exact hlt
    obtain ⟨a,ha⟩:∃ a,(dg x)[k]? =some a:=⟨_,List.getElem?_eq_getElem hkx⟩
    have ha2:a<16777216:=pdY x a (List.mem_of_getElem? ha)
    obtain ⟨g1,rfl,c1⟩:=(HU.out.upd hup0).get ha
    obtain ⟨s,hs⟩:∃ s,s=a * d+cy:=⟨_,rfl⟩
    obtain ⟨hc1,hc2⟩:=piR ha2 hd hcy
    have hst:=pkY ha HI.out.1 HI.out.2.2
    rw [← hs] at hc1 hc2 hst
    have hs1:(a:Int) * (d:Int)+(cy:Int)=(s:Int):=by rw [hs];simp
    have hs2:(a:Int) * (d:Int)≤281474976710656:=by have:=Int.natCast_nonneg cy;omega
    have hs0:0≤(a:Int) * (d:Int):=Int.mul_nonneg (by omega) (by omega)
    obtain ⟨r,hr⟩:∃ r,r=s % 16777216:=⟨_,rfl⟩
    obtain ⟨q,hq⟩:∃ q,q=s / 16777216:=⟨_,rfl⟩
    have hr1:(s:Int) % 16777216=(r:Int):=by omega
    have hq1:(s:Int) / 16777216=(q:Int):=by omega
    have hr2:r<16777216:=by omega
    rw [← hr,← hq] at hst
    rw [← hq] at hc1
    obtain ⟨v',w',hrun,hown',hup'⟩:=paV wr _ k _ (r:Int) HR.out (by omega)
    rw [← paO] at hown'
    have hl:(out ++ [r]).length=k+1:=by rw [List.length_append,HI.out.1];rfl
    have HRUN:=Lib.hid hrun
    have HOWN:=Lib.hid hown'
    have HUPP:=Lib.hid (HUP.out.trans hup')
    have HST:=Lib.hid (And.intro hl (And.intro (okL_snoc HI.out.2.1 hr2) hst))
    clear ha hkx hs hst hrun hown' hup' HUP HR hr hq hl
    go_wp2_with (refine wpList_append_run _ rfl _ _ _ _ rfl _ _ v' w' rfl rfl HRUN.out ?_)
    exact ⟨⟨k+1,q,out ++ [r],by go_num,rfl,by omega,hc1,HST.out,HOWN.out,HUPP.out⟩,by simp [intOf];omega⟩
  · obtain rfl:k=n:=by omega
    obtain ⟨v',w',hrun,hown',hup'⟩:=paV wr _ k _ (cy:Int) HR.out (by omega)
    rw [← paO] at hown'
    have hl:(out ++ [cy]).length=k+1:=by rw [List.length_append,HI.out.1];rfl
    have hv:valL (out ++ [cy])=x * d:=by
     rw [pci,HI.out.1,HI.out.2.2,HN.out,List.take_length,pa9]
    rw [← hl] at hown'
    have hsl:=Sl.of_row hown'
    have HSL:=Lib.hid hsl
    have HRUN:=Lib.hid hrun
    have HUPP:=Lib.hid (HUP.out.trans hup')
    have HV:=Lib.hid hv
    have HOK:=Lib.hid (okL_snoc HI.out.2.1 hcy)
    clear hrun hown' hup' HUP HR hl hv hsl hlt
    go_wp2_with (refine wpList_append_run _ rfl _ _ _ _ rfl _ _ v' w' rfl rfl HRUN.out ?_)
    refine (pj0 v' _ w' HSL.out HOK.out).mono ?_
    rintro e w2 ⟨v2,HV2,rfl,rfl⟩
    go_wp2_with fail
    go_ret
    refine ⟨v2,?_,rfl,HUPP.out.mono (fun _ h=>h) (fun _ h=>absurd h (by simp))⟩
    show Sl _ _ _
    rw [← HV.out]
    exact HV2.out
theorem pcj {P:Program} (t e:TypeId) (i:TypeInfo) (z:Value) (size bytes:Nat) (ht:P.underlying t=some (.slice e)) (hi:P.info? e=some i) (hz:i.zero=some z) (hsize:i.size=size) (hby:i.bytes=bytes) (hzs:z.cells.size=size) (hsz:0<size) (hb:bytes≤1000)
 (wr:World) (v:Value) (k:Nat) (xs cs:List Value) (hcl:cs.length=size) (h1:∀ u∈cs,u.oneCell'=true) (hown:wr.ownsRow 0 e size v k xs) (hk:k≤1000000) :
 ∃ v' w',(Builtin.append_ #[t,t] t #[v,.slice (some ⟨wr.heap.size,0,none⟩) 1 1]).run P (wr.alloc (.cells cs.toArray e))=.ok v' w'∧w'.ownsRow 0 e size v' (k+1) (xs ++ cs)∧Upd (foot v) (foot v') wr w':=by
 have hrow:(wr.alloc (.cells cs.toArray e)).ownsRow 0 e size v k xs:=pai hown (fun j hj=>Below.heap_alloc _ _ _ (paf hown j hj))
 have hw1:(wr.alloc (.cells cs.toArray e)).heap[wr.heap.size]? =some (.cells cs.toArray e (0,0)):=heap_alloc_new _ _
 have hkb:(k+1) * bytes≤140737488355328:=Nat.le_trans (Nat.mul_le_mul (show k+1≤1000001 by omega) hb) (by decide)
 obtain ⟨v',w',hrun,hown',hup'⟩:=paY (P:=P) (wr.alloc (.cells cs.toArray e)) t t e i z size bytes ht hi hz hsize hby hzs hsz v k xs hrow ⟨wr.heap.size,0,none⟩ 1 1 cs (by rw [hcl,Nat.one_mul]) (by
  intro j u hj
  have e':(⟨wr.heap.size,0,none⟩:Addr).add j=⟨wr.heap.size,j,none⟩:=by simp [Addr.add];exact fun h=>h.symm
  rw [e',cell_of_row _ _ _ _ _ _ hw1,List.getElem?_toArray]
  exact hj) h1 hkb (by simp only [maxLen];omega)
 exact ⟨v',w',hrun,hown',((Upd.refl _ _).alloc _).trans hup'⟩
theorem poi {u u':Value} {w2 w3:World} (hA:Upd (foot u) (foot u') w2 w3) {x:Nat} (hx:x<w2.heap.size) (hn:x ∉ foot u):x<w3.heap.size∧x ∉ foot u'∧w3.heap[x]? =w2.heap[x]?:=by
 refine ⟨Nat.lt_of_lt_of_le hx hA.size,fun h=>?_,hA.block x hx hn⟩
 rcases hA.new x h with h | h
 · exact hn h
 · omega
theorem Sl.of_digs {w:World} {v:Value} {l:List Nat} {n:Nat} (hn:l.length=n) (h:w.ownsRow 0 3 1 v n (pah l)):Sl w v l:=by
 subst hn
 exact Sl.of_row h
def DsIs (w:World) (F:List Nat) (ds:List Dl) (cb:List (Value × Value)):Prop :=
 cb.length=ds.length∧∀ (k:Nat) d p,ds[k]? =some d→cb[k]? =some p→w.ownsRow 0 3 1 p.1 d.coms.length (pah d.coms)∧paN w p.2 d.boxes∧∀ x,x∈foot p.1∨x∈foot p.2→x<w.heap.size∧x ∉ F
theorem DsIs.nil (w:World) (F:List Nat):DsIs w F [] []:=⟨rfl,fun k d p h _=>by simp at h⟩
theorem DsIs.keep {w w':World} {F F':List Nat} {ds:List Dl} {cb:List (Value × Value)} (h:DsIs w F ds cb) (hs:∀ x,x<w.heap.size→x ∉ F→x<w'.heap.size∧x ∉ F'∧w'.heap[x]? =w.heap[x]?):DsIs w' F' ds cb:=by
 refine ⟨h.1,fun k d p hd hp=>?_⟩
 obtain ⟨h1,h2,h3⟩:=h.2 k d p hd hp
 exact ⟨pai h1 (fun x hx=>(hs x (h3 x (.inl hx)).1 (h3 x (.inl hx)).2).2.2),paN.same h2 (fun x hx=>(hs x (h3 x (.inr hx)).1 (h3 x (.inr hx)).2).2.2),fun x hx=>⟨(hs x (h3 x hx).1 (h3 x hx).2).1,(hs x (h3 x hx).1 (h3 x hx).2).2.1⟩⟩
theorem DsIs.snoc {w:World} {F:List Nat} {ds:List Dl} {cb:List (Value × Value)} {d:Dl} {c b:Value} (h:DsIs w F ds cb) (hc:w.ownsRow 0 3 1 c d.coms.length (pah d.coms)) (hb:paN w b d.boxes) (hf:∀ x,x∈foot c∨x∈foot b→x<w.heap.size∧x ∉ F):DsIs w F (ds ++ [d]) (cb ++ [(c,b)]):=by
 refine ⟨by simp [h.1],fun k d' p hd hp=>?_⟩
 rcases Nat.lt_or_ge k ds.length with hk | hk
 · rw [List.getElem?_append_left hk] at hd
   rw [List.getElem?_append_left (by rw [h.1];exact hk)] at hp
   exact h.2 k d' p hd hp
 · rw [List.getElem?_append_right hk] at hd
   rw [List.getElem?_append_right (by rw [h.1];exact hk),h.1] at hp
   have hk0:k - ds.length=0:=by
    have:=(List.getElem?_eq_some_iff.1 hd).1
    simp at this
    omega
   rw [hk0] at hd hp
   simp at hd hp
   subst hd
   subst hp
   exact ⟨hc,hb,hf⟩
def pb5:List Dl→List (Value × Value)→List Value
 | d :: ds,p :: cb=>p.1 :: .int .i64 (d.point:Int) :: p.2 :: pb5 ds cb
 | _,_=>[]
theorem pfe:∀ {ds:List Dl} {cb:List (Value × Value)} (d:Dl) (p:Value × Value),cb.length=ds.length→pb5 (ds ++ [d]) (cb ++ [p])=pb5 ds cb ++ [p.1,.int .i64 (d.point:Int),p.2]
 | [],[],_,_,_=>rfl
 | a :: ds,q :: cb,d,p,h=>by
  have:=pfe (ds:=ds) (cb:=cb) d p (by simpa using h)
  simp [pb5,this]
 | [],_ :: _,_,_,h=>by simp at h
 | _ :: _,[],_,_,h=>by simp at h
theorem pf5:∀ {ds:List Dl} {cb:List (Value × Value)} (k:Nat) (d:Dl) (p:Value × Value),ds[k]? =some d→cb[k]? =some p→(pb5 ds cb)[k * 3]? =some p.1∧(pb5 ds cb)[k * 3+1]? =some (.int .i64 (d.point:Int))∧(pb5 ds cb)[k * 3+2]? =some p.2
 | a :: ds,q :: cb,0,d,p,h,h'=>by
  simp at h h'
  subst h
  subst h'
  exact ⟨rfl,rfl,rfl⟩
 | a :: ds,q :: cb,k+1,d,p,h,h'=>by
  have:=pf5 (ds:=ds) (cb:=cb) k d p (by simpa using h) (by simpa using h')
  have e:(k+1) * 3=k * 3+3:=by omega
  rw [e]
  simpa [pb5] using this
 | [],_,_,_,_,h,_=>by simp at h
 | _ :: _,[],_,_,_,_,h=>by simp at h
def pez (w:World) (ao:Option Addr) (l:List Mem):Prop:=∀ (k:Nat) m,l[k]? =some m→∃ g,ao=some ⟨g,0,none⟩∧g<w.heap.size∧w.cell? ⟨g,k * 3,none⟩=some (.int .i64 m.id)∧w.cell? ⟨g,k * 3+1,none⟩=some (.int .i64 m.weight)∧w.cell? ⟨g,k * 3+2,none⟩=some (.int .i64 m.pub)
theorem pez.upd {w w':World} {ao:Option Addr} {l:List Mem} (h:pez w ao l) (u:Upd [] [] w w'):pez w' ao l:=by
 intro k m hm
 obtain ⟨g,e,hg,h0,h1,h2⟩:=h k m hm
 have hb:=u.block g hg (by simp)
 exact ⟨g,e,Nat.lt_of_lt_of_le hg u.size,(World.cell?_of_block (a:=⟨g,_,none⟩) hb).trans h0,(World.cell?_of_block (a:=⟨g,_,none⟩) hb).trans h1,(World.cell?_of_block (a:=⟨g,_,none⟩) hb).trans h2⟩
theorem ppJ {id wt pub:Int} {g o:Nat} {W:World} (h0:W.cell? ⟨g,o,none⟩=some (.int .i64 id)) (h1:W.cell? ⟨g,o+1,none⟩=some (.int .i64 wt)) (h2:W.cell? ⟨g,o+2,none⟩=some (.int .i64 pub)):(Instr.loadAt 64 (.pointer (some ⟨g,o,none⟩))).run Tryz.prog W=.ok (.agg #[.int .i64 id,.int .i64 wt,.int .i64 pub]) W :=
 run_loadAt_mid W g o 64 [.int .i64 id,.int .i64 wt,.int .i64 pub] _ (fun j v hv=>by
  match j,hv with
  | 0,hv=>simp at hv;subst hv;exact h0
  | 1,hv=>simp at hv;subst hv;exact h1
  | 2,hv=>simp at hv;subst hv;exact h2) Tryz.underlying64 rfl (by show _=some 3;kernel_rfl)
theorem pez.row {w:World} {ao:Option Addr} {l:List Mem} (h:pez w ao l) {i:Nat} {id wt pub:Int} (hi:l[i]? =some ⟨id,wt,pub⟩):∃ g,ao=some ⟨g,0,none⟩∧g<w.heap.size∧∀ W,Upd [] [] w W→(Instr.loadAt 64 (.pointer (some ⟨g,i * 3,none⟩))).run Tryz.prog W=.ok (.agg #[.int .i64 id,.int .i64 wt,.int .i64 pub]) W:=by
 obtain ⟨g,e,hg,h0,h1,h2⟩:=h i _ hi
 refine ⟨g,e,hg,fun W u=>?_⟩
 have hb:=u.block g hg (by simp)
 exact ppJ ((World.cell?_of_block (a:=⟨g,_,none⟩) hb).trans h0) ((World.cell?_of_block (a:=⟨g,_,none⟩) hb).trans h1) ((World.cell?_of_block (a:=⟨g,_,none⟩) hb).trans h2)
def pb6 (who:Int) (l:List Mem):Option Nat:=l.findIdx? (·.id == who)
def idxV (o:Option Nat):Int:=match o with
 | some i=>(i:Int)
 | none=>-1
theorem pmm (t:Nat) (w:World) (h1:1≤t) (h2:t≤1000):Calls Tryz.prog 107 #[.int .i64 (t:Int)] w (Ret (.int .i64 (((t - 1) / 3:Nat):Int)) w):=by
 obtain ⟨q,hq⟩:∃ q,q=t / 3:=⟨_,rfl⟩
 obtain ⟨m,hm⟩:∃ m,m=(t - 1) / 3:=⟨_,rfl⟩
 rw [← hm]
 have e1:(t:Int).tdiv 3=(q:Int):=by rw [Int.tdiv_eq_ediv_of_nonneg (by omega)];omega
 have e2:(t:Int) / 3=(q:Int):=by omega
 have hqm:3 * q≤t∧t≤3 * q+2∧3 * m+1≤t∧t≤3 * m+3:=by omega
 clear hq hm
 go_enter Tryz.func107,Tryz.ntmps107
 go_wp2_with fail
 go_loopw [3] (fun i wr=>∃ k:Nat,i=.int .i64 (k:Int)∧k≤m∧wr=w) (fun i _=>m - (intOf i).toNat)
 case atStart=>exact ⟨0,rfl,Nat.zero_le _,(by first | trivial | rfl)⟩
 case round =>
  obtain ⟨k,rfl,hk,rfl⟩:=hrel
  by_cases hlt:k<m
  · have d1:(1:Int)≤(t:Int):=by omega
    have d2:(k:Int)<(q:Int)+1:=by omega
    have d3:3 * ((k:Int)+1)<(t:Int):=by omega
    go_wp2_with fail
    exact ⟨⟨k+1,by go_num,by omega,(by first | trivial | rfl)⟩,by simp [intOf];omega⟩
  · obtain rfl:k=m:=by omega
    have d1:(1:Int)≤(t:Int):=by omega
    have d2:(k:Int)<(q:Int)+1:=by omega
    have d3:¬ 3 * ((k:Int)+1)<(t:Int):=by omega
    go_wp2_with fail
    go_ret
    exact ⟨rfl,rfl⟩
theorem pdG (t:Nat) (w:World) (h1:1≤t) (h2:t≤1000):Calls Tryz.prog 44 #[.int .i64 (t:Int)] w (Ret (.int .i64 (needN t:Int)) w):=by
 have HN:Hid (needN t=(t - 1) / 3+1):=by
  show _=_
  unfold needN
  rw [if_neg (by omega)]
 have HM:=Lib.hid (pmm t w h1 h2)
 obtain ⟨m,hm⟩:∃ m,m=(t - 1) / 3:=⟨_,rfl⟩
 rw [← hm] at HM HN
 have hm2:m≤1000:=by omega
 clear hm
 go_enter Tryz.func44,Tryz.ntmps44
 go_wp2_with fail
 refine HM.out.mono ?_
 rintro e w' ⟨rfl,rfl⟩
 go_wp2_with fail
 go_ret
 exact ⟨by rw [HN.out];first | rfl | simp,rfl⟩
def pb7 (w:World) (v:Value) (ws:List Nat):Prop:=∃ ao cap,v=.slice ao ws.length cap∧ws.length≤cap∧cap≤9223372036854775807∧pez w ao (pdc ws)
theorem pb7.upd {w w':World} {v:Value} {ws:List Nat} (h:pb7 w v ws) (u:Upd [] [] w w'):pb7 w' v ws:=by
 obtain ⟨ao,cap,e,h1,h2,h3⟩:=h
 exact ⟨ao,cap,e,h1,h2,h3.upd u⟩
theorem pbc {ws:List Nat} {k x:Nat} (h:ws[k]? =some x):(ws.take (k+1)).sum=(ws.take k).sum+x:=by
 rw [List.take_add_one,h]
 simp
theorem pbE (ws:List Nat) (k:Nat):(ws.take k).sum≤ws.sum:=by
 have h:=List.take_append_drop k ws
 have:ws.sum=(ws.take k).sum+(ws.drop k).sum:=by rw [← List.sum_append,h]
 omega
set_option maxHeartbeats 1000000 in
theorem pcY (v:Value) (ws:List Nat) (w:World) (hw:WsOk ws) (h:pb7 w v ws):Calls Tryz.prog 45 #[v] w (Mk (.int .i64 (ws.sum:Int)) w):=by
 obtain ⟨ao,cap,rfl,h1,h2,h3⟩:=h
 have HM:=Lib.hid h3
 have HW:=Lib.hid hw
 have HT:=Lib.hid (pbE ws)
 have hs:=hw.sum.2
 obtain ⟨n,hn⟩:∃ n,n=ws.length:=⟨_,rfl⟩
 have HN:=Lib.hid hn
 have hn1:1≤n:=by rw [hn];exact hw.1
 have hn4:n≤4:=by rw [hn];exact hw.2.1
 rw [← hn] at h1 ⊢
 obtain ⟨S,hS⟩:∃ S,S=ws.sum:=⟨_,rfl⟩
 rw [← hS] at hs HT ⊢
 have HS:=Lib.hid hS
 clear hn h3 hw hS
 go_enter Tryz.func45,Tryz.ntmps45
 go_wp2_with fail
 go_loopw [3,4,5] (fun s i _ wr=>∃ (k r:Nat),s=.int .i64 (r:Int)∧i=.int .i64 (k:Int)∧k≤n∧r≤S∧Hid (r=(ws.take k).sum)∧Hid (Upd [] [] w wr)) (fun _ i _ _=>n - (intOf i).toNat)
 case atStart=>exact ⟨0,0,rfl,rfl,Nat.zero_le _,Nat.zero_le _,rfl,Upd.refl _ _⟩
 case round =>
  obtain ⟨k,r,rfl,rfl,hk,hr,HR,HU⟩:=hrel
  by_cases hlt:k<n
  · obtain ⟨x,hx⟩:∃ x,ws[k]? =some x:=⟨_,List.getElem?_eq_getElem (by rw [← HN.out];exact hlt)⟩
    have hx1:=HW.out.2.2 x (List.mem_of_getElem? hx)
    obtain ⟨g,rfl,hg,c0,c1,c2⟩:=(HM.out.upd HU.out) k _ (pbb hx)
    dsimp only [memC] at c0 c1 c2
    have hstep:=pbc hx
    rw [← HR.out] at hstep
    have hle:=HT.out (k+1)
    rw [hstep] at hle
    have HST:=Lib.hid hstep
    have x1:(1:Int)≤(x:Int):=by omega
    have x2:(x:Int)≤3:=by omega
    have i0:(0:Int)≤(k:Int):=by omega
    have i1:(k:Int)<(n:Int):=by omega
    clear hx hstep c2
    go_wp2_with fail
    go_loopw [5] (fun i wr'=>∃ j:Nat,i=.int .i64 (j:Int)∧j≤k∧Hid (Upd [] [] wr wr')) (fun i _=>k - (intOf i).toNat)
    case atStart=>exact ⟨0,rfl,Nat.zero_le _,Upd.refl _ _⟩
    case round =>
     obtain ⟨j,rfl,hj,HV⟩:=hrel
     by_cases hjk:j<k
     · obtain ⟨y,hy⟩:∃ y,ws[j]? =some y:=⟨_,List.getElem?_eq_getElem (by rw [← HN.out];omega)⟩
       obtain ⟨g',e',hg',b0,b1,b2⟩:=(HM.out.upd (HU.out.trans HV.out)) j _ (pbb hy)
       injection e' with e'
       injection e' with e' _ _
       subst e'
       dsimp only [memC] at b0
       have c0':=(HV.out.cell (p:=⟨g,k * 3,none⟩) hg (by simp)).trans c0
       have hne:((j:Int)+1 == (k:Int)+1)=false:=by rw [beq_eq_false_iff_ne];omega
       have j0:(0:Int)≤(j:Int):=by omega
       have j1:(j:Int)<(n:Int):=by omega
       clear hy b1 b2
       go_upto_region 12 with (fail)
       go_quiet (fail)
       have HVQ:=Lib.hid (HV.out.drewN nq)
       clear b0 c0' HV
       generalize wr.drewN nq=wr2 at *
       go_wp2_with fail
       exact ⟨⟨j+1,by go_num,by omega,HVQ.out⟩,by simp [intOf];omega⟩
     · obtain rfl:j=k:=by omega
       have c1':=(HV.out.cell (p:=⟨g,j * 3+1,none⟩) hg (by simp)).trans c1
       clear c1 c0
       go_wp2_with fail
       exact ⟨⟨j+1,r+x,by go_num,by go_num,by omega,by omega,HST.out.symm,HU.out.trans HV.out⟩,by simp [intOf];omega⟩
  · obtain rfl:k=n:=by omega
    have HE:Hid (r=S):=by
     show _=_
     rw [HR.out,HS.out,HN.out,List.take_length]
    have hr60:(r:Int)≤60:=by omega
    go_wp2_with fail
    go_ret
    exact ⟨by rw [HE.out];rfl,HU.out⟩
theorem piV {l:List Nat} {k d:Nat} (h:l[k]? =some d):l.getD k 0=d:=by rw [List.getD_eq_getElem?_getD,h];rfl
theorem pba {l:List Nat} {k:Nat} (h:l.length≤k):l.getD k 0=0:=by rw [List.getD_eq_getElem?_getD,List.getElem?_eq_none h];rfl
set_option maxHeartbeats 4000000 in
theorem pmn (u v:Value) (x y:Nat) (w:World) (hu:Sl w u (dg x)) (hv:Sl w v (dg y)) (hxy:y≤x) (hx:(dg x).length≤1000000000):Calls Tryz.prog 129 #[u,v] w (fun e w'=>∃ v',Hid (Sl w' v' (dg (x - y)))∧e=.returned v'∧Upd [] [] w w'):=by
 obtain ⟨ao,cap,rfl,hu1,hu2⟩:=hu.form
 obtain ⟨bo,cbp,rfl,hv1,hv2⟩:=hv.form
 have hmn:=pcz hxy
 obtain ⟨n,hn⟩:∃ n,n=(dg x).length:=⟨_,rfl⟩
 obtain ⟨m,hm⟩:∃ m,m=(dg y).length:=⟨_,rfl⟩
 rw [← hn] at hu1 hu hx
 rw [← hm] at hv1 hv
 rw [← hn,← hm] at hmn
 rw [← hn,← hm]
 have HU:=Lib.hid hu
 have HVV:=Lib.hid hv
 have HN:=Lib.hid hn
 have HM:=Lib.hid hm
 clear hu hv hn hm
 go_enter Tryz.func129,Tryz.ntmps129
 go_wp2_with fail
 go_loopw [5,6,7] (fun o c i wr=>∃ (k b:Nat) (out:List Nat),i=.int .i64 (k:Int)∧c=.int .i64 (b:Int)∧k≤n∧b≤1∧Hid (out.length=k∧okL out∧valL out+valL ((dg y).take k)=valL ((dg x).take k)+16777216 ^ k * b)∧Hid (wr.ownsRow 0 3 1 o k (pah out))∧Hid (Upd [] (foot o) w wr)) (fun _ _ i _=>n - (intOf i).toNat)
 case atStart=>exact ⟨0,0,[],rfl,rfl,Nat.zero_le _,by omega,⟨rfl,pe9,by simp [valL]⟩,⟨by simp [pah],.inl ⟨rfl,rfl⟩⟩,Upd.refl _ _⟩
 case round =>
  obtain ⟨k,b,out,rfl,rfl,hk,hb,HI,HR,HUP⟩:=hrel
  have hup0:Upd [] [] w wr:=HUP.out.mono (fun _ h=>h) (fun _ h=>absurd h (by simp))
  by_cases hlt:k<n
  · have hkx:k<(dg x).length:=by rw [← HN.out];exact hlt
    obtain ⟨a,ha⟩:∃ a,(dg x)[k]? =some a:=⟨_,List.getElem?_eq_getElem hkx⟩
    have ha2:a<16777216:=pdY x a (List.mem_of_getElem? ha)
    obtain ⟨g1,rfl,c1⟩:=(HU.out.upd hup0).get ha
    have HA:=Lib.hid ha
    clear ha hkx
    by_cases hkm:k<m
    · have hky:k<(dg y).length:=by rw [← HM.out];exact hkm
      obtain ⟨c,hc⟩:∃ c,(dg y)[k]? =some c:=⟨_,List.getElem?_eq_getElem hky⟩
      have hc2:c<16777216:=pdY y c (List.mem_of_getElem? hc)
      obtain ⟨g2,rfl,c2⟩:=(HVV.out.upd hup0).get hc
      have HC:=Lib.hid (piV hc)
      clear hc hky
      by_cases hneg:(a:Int) - (b:Int) - (c:Int)<0
      · obtain ⟨r,hr⟩:∃ r:Nat,(a:Int) - (b:Int) - (c:Int)+16777216=(r:Int):=⟨a+16777216 - b - c,by omega⟩
        have hr2:r<16777216:=by omega
        have hst:=pcX HA.out HI.out.1 HI.out.2.2 (r:=r) (b':=1) (by rw [HC.out];omega)
        obtain ⟨v',w',hrun,hown',hup'⟩:=paV wr _ k _ (r:Int) HR.out (by omega)
        rw [← paO] at hown'
        have hl:(out ++ [r]).length=k+1:=by rw [List.length_append,HI.out.1];rfl
        have HRUN:=Lib.hid hrun
        have HOWN:=Lib.hid hown'
        have HUPP:=Lib.hid (HUP.out.trans hup')
        have HST:=Lib.hid (And.intro hl (And.intro (okL_snoc HI.out.2.1 hr2) hst))
        clear hst hrun hown' hup' HUP HR hl
        go_wp2_with (refine wpList_append_run _ rfl _ _ _ _ rfl _ _ v' w' rfl rfl HRUN.out ?_)
        exact ⟨⟨k+1,1,out ++ [r],by go_num,rfl,by omega,by omega,HST.out,HOWN.out,HUPP.out⟩,by simp [intOf];omega⟩
      · obtain ⟨r,hr⟩:∃ r:Nat,(a:Int) - (b:Int) - (c:Int)=(r:Int):=⟨a - b - c,by omega⟩
        have hr2:r<16777216:=by omega
        have hst:=pcX HA.out HI.out.1 HI.out.2.2 (r:=r) (b':=0) (by rw [HC.out];omega)
        obtain ⟨v',w',hrun,hown',hup'⟩:=paV wr _ k _ (r:Int) HR.out (by omega)
        rw [← paO] at hown'
        have hl:(out ++ [r]).length=k+1:=by rw [List.length_append,HI.out.1];rfl
        have HRUN:=Lib.hid hrun
        have HOWN:=Lib.hid hown'
        have HUPP:=Lib.hid (HUP.out.trans hup')
        have HST:=Lib.hid (And.intro hl (And.intro (okL_snoc HI.out.2.1 hr2) hst))
        clear hst hrun hown' hup' HUP HR hl hneg
        go_wp2_with (refine wpList_append_run _ rfl _ _ _ _ rfl _ _ v' w' rfl rfl HRUN.out ?_)
        exact ⟨⟨k+1,0,out ++ [r],by go_num,rfl,by omega,by omega,HST.out,HOWN.out,HUPP.out⟩,by simp [intOf];omega⟩
    · have HC:=Lib.hid (pba (l:=dg y) (k:=k) (by rw [← HM.out];omega))
      by_cases hneg:(a:Int) - (b:Int)<0
      · obtain ⟨r,hr⟩:∃ r:Nat,(a:Int) - (b:Int)+16777216=(r:Int):=⟨a+16777216 - b,by omega⟩
        have hr2:r<16777216:=by omega
        have hst:=pcX HA.out HI.out.1 HI.out.2.2 (r:=r) (b':=1) (by rw [HC.out];omega)
        obtain ⟨v',w',hrun,hown',hup'⟩:=paV wr _ k _ (r:Int) HR.out (by omega)
        rw [← paO] at hown'
        have hl:(out ++ [r]).length=k+1:=by rw [List.length_append,HI.out.1];rfl
        have HRUN:=Lib.hid hrun
        have HOWN:=Lib.hid hown'
        have HUPP:=Lib.hid (HUP.out.trans hup')
        have HST:=Lib.hid (And.intro hl (And.intro (okL_snoc HI.out.2.1 hr2) hst))
        clear hst hrun hown' hup' HUP HR hl
        go_wp2_with (refine wpList_append_run _ rfl _ _ _ _ rfl _ _ v' w' rfl rfl HRUN.out ?_)
        exact ⟨⟨k+1,1,out ++ [r],by go_num,rfl,by omega,by omega,HST.out,HOWN.out,HUPP.out⟩,by simp [intOf];omega⟩
      · obtain ⟨r,hr⟩:∃ r:Nat,(a:Int) - (b:Int)=(r:Int):=⟨a - b,by omega⟩
        have hr2:r<16777216:=by omega
        have hst:=pcX HA.out HI.out.1 HI.out.2.2 (r:=r) (b':=0) (by rw [HC.out];omega)
        obtain ⟨v',w',hrun,hown',hup'⟩:=paV wr _ k _ (r:Int) HR.out (by omega)
        rw [← paO] at hown'
        have hl:(out ++ [r]).length=k+1:=by rw [List.length_append,HI.out.1];rfl
        have HRUN:=Lib.hid hrun
        have HOWN:=Lib.hid hown'
        have HUPP:=Lib.hid (HUP.out.trans hup')
        have HST:=Lib.hid (And.intro hl (And.intro (okL_snoc HI.out.2.1 hr2) hst))
        clear hst hrun hown' hup' HUP HR hl hneg
        go_wp2_with (refine wpList_append_run _ rfl _ _ _ _ rfl _ _ v' w' rfl rfl HRUN.out ?_)
        exact ⟨⟨k+1,0,out ++ [r],by go_num,rfl,by omega,by omega,HST.out,HOWN.out,HUPP.out⟩,by simp [intOf];omega⟩
  · obtain rfl:k=n:=by omega
    have hv:valL out=x - y:=by
     have h:=HI.out.2.2
     rw [HN.out] at h
     have:=pl7 (by rw [HI.out.1,HN.out]) HI.out.2.1 (pcz hxy) (by rw [pa9,pa9];exact hxy) h
     rwa [pa9,pa9] at this
    have hown:=HR.out
    rw [← HI.out.1] at hown
    have HSL:=Lib.hid (Sl.of_row hown)
    have HV:=Lib.hid hv
    clear hown hv hlt
    go_wp2_with fail
    refine (pj0 _ _ _ HSL.out HI.out.2.1).mono ?_
    rintro e w2 ⟨v2,HV2,rfl,rfl⟩
    go_wp2_with fail
    go_ret
    refine ⟨v2,?_,rfl,hup0⟩
    show Sl _ _ _
    rw [← HV.out]
    exact HV2.out
set_option maxHeartbeats 1000000 in
theorem pmo (u v:Value) (x y:Nat) (w:World) (hu:Sl w u (dg x)) (hv:Sl w v (dg y)) (hy:0<y) (hq:x / y<16777216) (hl:(dg y).length≤1000000000):Calls Tryz.prog 128 #[u,v] w (fun e w'=>∃ r:Nat,Hid (r=x / y)∧r<16777216∧e=.returned (.int .i64 (r:Int))∧Upd [] [] w w'):=by
 obtain ⟨q,hqq⟩:∃ q,q=x / y:=⟨_,rfl⟩
 rw [← hqq] at hq
 rw [← hqq]
 have HU:=Lib.hid hu
 have HV:=Lib.hid hv
 have HQ:=Lib.hid hqq
 have HL:=Lib.hid hl
 clear hu hv hqq hl
 go_enter Tryz.func128,Tryz.ntmps128
 go_wp2_with fail
 go_loopw [5,6] (fun a b wr=>∃ lo hi:Nat,a=.int .i64 (lo:Int)∧b=.int .i64 (hi:Int)∧lo≤q∧q≤hi∧hi≤16777215∧Hid (Upd [] [] w wr)) (fun a b _=>(intOf b).toNat - (intOf a).toNat)
 case atStart=>exact ⟨0,16777215,rfl,rfl,Nat.zero_le _,by omega,Nat.le_refl _,Upd.refl _ _⟩
 case round =>
  obtain ⟨lo,hi,rfl,rfl,h1,h2,h3,HUP⟩:=hrel
  by_cases hlt:lo<hi
  · obtain ⟨m,hm⟩:∃ m:Nat,((lo:Int)+(hi:Int)+1) / 2=(m:Int):=⟨(lo+hi+1) / 2,by omega⟩
    have hm1:lo<m:=by omega
    have hm2:m≤hi:=by omega
    go_wp2_with fail
    refine (phD v y m wr (HV.out.upd HUP.out) (by omega) HL.out).mono ?_
    rintro e w2 ⟨v2,HV2,rfl,hu2⟩
    have HUP2:=Lib.hid (HUP.out.trans hu2)
    clear HUP hu2
    go_wp2_with fail
    refine (pml v2 u (y * m) x w2 HV2.out (HU.out.upd HUP2.out)).mono ?_
    rintro e w3 ⟨r,HR,hr,rfl,hu3⟩
    have HUP3:=Lib.hid (HUP2.out.trans hu3)
    clear HUP2 hu3
    by_cases hr0:r≤0
    · have hle:y * m≤x:=by
       have:=HR.out.2
       omega
      have hmq:m≤q:=by rw [HQ.out];exact pl8 hy hle
      clear hle
      go_wp2_with fail
      exact ⟨⟨m,hi,rfl,rfl,hmq,h2,h3,HUP3.out⟩,by simp [intOf];omega⟩
    · have hgt:x<y * m:=HR.out.2.1 (by omega)
      have hmq:q<m:=by rw [HQ.out];exact pk0 hy hgt
      clear hgt
      go_wp2_with fail
      exact ⟨⟨lo,m - 1,rfl,by congr 1;omega,h1,by omega,by omega,HUP3.out⟩,by simp [intOf];omega⟩
  · obtain rfl:lo=hi:=by omega
    obtain rfl:q=lo:=by omega
    go_wp2_with fail
    go_ret
    exact ⟨_,rfl,hq,rfl,HUP.out⟩
theorem phE (wr:World) (v:Value) (k:Nat) (xs:List Value) (a b c:UInt8) (hown:wr.ownsRow 0 5 1 v k xs) (hk:k<1099511627776) :
 ∃ v' w',(Builtin.append_ #[124,124] 124 #[v,.slice (some ⟨wr.heap.size,0,none⟩) 3 3]).run Tryz.prog (wr.alloc (.cells #[.int .u8 (a.toNat:Int),.int .u8 (b.toNat:Int),.int .u8 (c.toNat:Int)] 5))=.ok v' w'∧w'.ownsRow 0 5 1 v' (k+3) (xs ++ [pbt a,pbt b,pbt c])∧Upd (foot v) (foot v') wr w':=by
 have hrow:(wr.alloc (.cells #[.int .u8 (a.toNat:Int),.int .u8 (b.toNat:Int),.int .u8 (c.toNat:Int)] 5)).ownsRow 0 5 1 v k xs:=pai hown (fun j hj=>Below.heap_alloc _ _ _ (paf hown j hj))
 have hw1:(wr.alloc (.cells #[.int .u8 (a.toNat:Int),.int .u8 (b.toNat:Int),.int .u8 (c.toNat:Int)] 5)).heap[wr.heap.size]? =some (.cells #[.int .u8 (a.toNat:Int),.int .u8 (b.toNat:Int),.int .u8 (c.toNat:Int)] 5 (0,0)):=heap_alloc_new _ _
 obtain ⟨iu,u1,u2,u3',u4⟩:=pdE
 obtain ⟨v',w',hrun,hown',hup'⟩:=paY (P:=Tryz.prog) (wr.alloc (.cells #[.int .u8 (a.toNat:Int),.int .u8 (b.toNat:Int),.int .u8 (c.toNat:Int)] 5)) 124 124 5 iu (.int .u8 0) 1 1 Tryz.underlying124 u1 u2 u3' u4 rfl (by omega) v k _ hrow ⟨wr.heap.size,0,none⟩ 3 3 [pbt a,pbt b,pbt c] rfl (by
  intro j u hj
  have hj3:j<3:=by
   have:=(List.getElem?_eq_some_iff.1 hj).1
   simpa using this
  have e:(⟨wr.heap.size,0,none⟩:Addr).add j=⟨wr.heap.size,j,none⟩:=by unfold Addr.add;split <;> simp_all
  rw [e,cell_of_row _ _ _ _ _ _ hw1]
  match j,hj3,hj with
  | 0,_,hj=>exact hj
  | 1,_,hj=>exact hj
  | 2,_,hj=>exact hj) (paG [a,b,c]) (by omega) (by simp only [maxLen];omega)
 exact ⟨v',w',hrun,hown',((Upd.refl _ _).alloc _).trans hup'⟩
theorem Sl.at {w:World} {g n cap:Nat} {l:List Nat} (h:Sl w (.slice (some ⟨g,0,none⟩) n cap) l) {k d:Nat} (hk:l[k]? =some d):w.cell? ⟨g,k,none⟩=some (.int .i64 (d:Int)):=by
 obtain ⟨b,e,hc⟩:=h.get hk
 simp only [Option.some.injEq,Addr.mk.injEq,and_true] at e
 subst e
 exact hc
theorem pf6 (d s:Nat):IntKind.u8.wrap ((d:Int) / s)=((UInt8.ofNat (d / s)).toNat:Int):=by
 rw [IntKind.wrap_u8,UInt8.toNat_ofNat']
 omega
set_option maxHeartbeats 2000000 in
theorem pcZ (u:Value) (l:List Nat) (w:World) (hu:Sl w u l) (hl:okL l) (hn:l.length≤100000000):Calls Tryz.prog 70 #[u] w (pdb (valL l) w):=by
 obtain ⟨ao,cap,rfl,hu1,hu2⟩:=hu.form
 obtain ⟨n,hnn⟩:∃ n,n=l.length:=⟨_,rfl⟩
 rw [← hnn] at hu1 hu hn
 rw [← hnn]
 have HU:=Lib.hid hu
 have HN:=Lib.hid hnn
 clear hu hnn
 go_enter Tryz.func70,Tryz.ntmps70
 go_wp2_with fail
 go_loopw [3,4] (fun t i wr=>∃ (z:Int) (k q:Nat) (bl:List UInt8),i=.int .i64 z∧z+1=(k:Int)∧k≤n∧q≤300000000∧Hid (natB bl=valL (l.drop k))∧Hid (q=bl.length∧q=3 * (n - k))∧Hid (wr.ownsRow 0 5 1 t q (byteVals bl))∧Hid (Upd [] (foot t) w wr)) (fun _ i _=>(intOf i+1).toNat)
 case atStart=>exact ⟨(n:Int) - 1,n,0,[],rfl,by omega,Nat.le_refl _,Nat.zero_le _,by show _=_;rw [List.drop_of_length_le (by rw [HN.out];omega)];rfl,⟨rfl,by omega⟩,⟨by simp [byteVals],.inl ⟨rfl,rfl⟩⟩,Upd.refl _ _⟩
 case round =>
  obtain ⟨z,k,q,bl,rfl,hz,hk,hq,HB,HQ,HR,HUP⟩:=hrel
  have hup0:Upd [] [] w wr:=HUP.out.mono (fun _ h=>h) (fun _ h=>absurd h (by simp))
  by_cases h0:0<k
  · obtain ⟨j,rfl⟩:∃ j,k=j+1:=⟨k - 1,by omega⟩
    obtain rfl:z=(j:Int):=by omega
    have hjl:j<l.length:=by rw [← HN.out];omega
    obtain ⟨d,hd⟩:∃ d,l[j]? =some d:=⟨_,List.getElem?_eq_getElem hjl⟩
    have hd2:d<16777216:=hl d (List.mem_of_getElem? hd)
    obtain ⟨g1,rfl,c1⟩:=(HU.out.upd hup0).get hd
    have hst:natB (bl ++ [UInt8.ofNat (d / 65536),UInt8.ofNat (d / 256),UInt8.ofNat d])=valL (l.drop j):=by
     rw [pkZ _ _ hd2,HB.out,pbK hd]
     omega
    have e2:IntKind.u8.wrap ((d:Int) / 65536)=((UInt8.ofNat (d / 65536)).toNat:Int):=pf6 d 65536
    have e1:IntKind.u8.wrap ((d:Int) / 256)=((UInt8.ofNat (d / 256)).toNat:Int):=pf6 d 256
    have e0:IntKind.u8.wrap (d:Int)=((UInt8.ofNat d).toNat:Int):=by rw [IntKind.wrap_u8,UInt8.toNat_ofNat'];omega
    generalize UInt8.ofNat (d / 65536)=b2 at *
    generalize UInt8.ofNat (d / 256)=b1 at *
    generalize UInt8.ofNat d=b0 at *
    obtain ⟨v',w',hrun,hown',hup'⟩:=phE wr.drew _ q _ b2 b1 b0 (pai HR.out (fun _ _=>rfl)) (by omega)
    have HRUN:=Lib.hid hrun
    have HOWN:=Lib.hid hown'
    have HUPP:=Lib.hid (HUP.out.drew.trans hup')
    have c3:=(HU.out.upd (HUPP.out.mono (fun _ h=>h) (fun _ h=>absurd h (by simp)))).at hd
    have HST:=Lib.hid hst
    have hq2:=HQ.out
    have hq3:q+3≤300000000:=by omega
    have hq4:q+3=(bl ++ [b2,b1,b0]).length∧q+3=3 * (n - j):=⟨by rw [List.length_append,← hq2.1];rfl,by omega⟩
    have HQQ:=Lib.hid hq4
    clear hjl hd hst hrun hown' hup' HUP HR HQ hq2 hq4 hz HB
    go_wp2_with fail
    have p0:(0:Int)≤(j:Int):=by omega
    have p1:(j:Int)<(n:Int):=by omega
    have c2:wr.drew.cell? ⟨g1,j,none⟩=some (.int .i64 (d:Int)):=c1
    go_region_held3 (fun wp=>wp.cell? ⟨g1,j,none⟩=some (.int .i64 (d:Int))) (first | exact c2 | assumption | go_keep)
     (first | (refine pav _ rfl (.tmp 12) (.tmp 30) 124 124 rfl _ _ _ _ rfl rfl HRUN.out ?_))
    go_wp2_with fail
    exact ⟨⟨(j:Int) - 1,j,q+3,bl ++ [b2,b1,b0],rfl,by omega,by omega,hq3,HST.out,HQQ.out,by show World.ownsRow _ _ _ _ _ _ _;rw [pa8];exact HOWN.out,HUPP.out⟩,by first | (simp [intOf];done) | (simp [intOf];omega)⟩
  · obtain rfl:k=0:=by omega
    obtain rfl:z=-1:=by omega
    have hown:=HR.out
    rw [HQ.out.1] at hown
    have hcv:=pdx (P:=Tryz.prog) wr 124 57 5 Tryz.underlying124 Tryz.underlying5 Tryz.underlying57 u3 bl hown
    have HCV:=Lib.hid hcv
    have hbl:bl.length≤300000000:=by rw [← HQ.out.1];exact hq
    clear hown hcv HR hz h0
    go_wp2_with fail
    rw [HCV.out]
    go_wp2_with fail
    refine (paU _ wr (by show bl.length≤_;omega)).mono ?_
    rintro e w' ⟨r,HR,rfl,rfl⟩
    go_wp2_with fail
    go_ret
    refine ⟨r,?_,rfl,hup0⟩
    show _=_
    rw [HR.out,pc8,HB.out,List.drop_zero]
set_option maxHeartbeats 4000000 in
theorem pf7 (a:ByteArray) (x:Nat) (w:World) (hx:x=natB (bs a)) (ha:a.size≤1000000000) (hd:(dg x).length≤100000000):Calls Tryz.prog 69 #[.string a] w (fun e w'=>∃ v',Hid (Sl w' v' (dg x))∧e=.returned v'∧Upd [] [] w w'):=by
 have HX:=Lib.hid hx
 clear hx
 go_enter Tryz.func69,Tryz.ntmps69
 go_wp2_with fail
 refine (paU a w (by omega)).mono ?_
 rintro e w' ⟨r,HR,rfl,rfl⟩
 have hr:bs r=be x:=by rw [HR.out,HX.out]
 have hrs:r.size≤1000000000:=by
  have h1:=paE a.size x (by rw [HX.out];exact pdX (bs a))
  have h2:=paq hr
  omega
 have HB:=Lib.hid hr
 clear HR hr
 go_wp2_with fail
 go_loopw [3,4] (fun o e wr=>∃ (z:Int) (t y q:Nat) (out:List Nat),e=.int .i64 z∧((z≤0∧-3<z∧t=0)∨z=(t:Int))∧t≤r.size∧q≤100000000∧Hid ((be x).take t=be y∧t=(be y).length)∧Hid (okL out∧dg x=out ++ dg y∧out.length=q)∧Hid (wr.ownsRow 0 3 1 o q (pah out))∧Hid (Upd [] (foot o) w wr)) (fun _ e _=>(intOf e).toNat)
 case atStart=>exact ⟨(r.size:Int),r.size,x,0,[],rfl,.inr rfl,Nat.le_refl _,Nat.zero_le _,⟨by rw [← HB.out,List.take_of_length_le (by simp [pac])],by rw [← HB.out];rfl⟩,⟨pe9,rfl,rfl⟩,⟨by simp [pah],.inl ⟨rfl,rfl⟩⟩,Upd.refl _ _⟩
 case round =>
  obtain ⟨z,t,y,q,out,rfl,hz,ht,hq,HT,HO,HROW,HUP⟩:=hrel
  have hup0:Upd [] [] w wr:=HUP.out.mono (fun _ h=>h) (fun _ h=>absurd h (by simp))
  by_cases h0:0<z
  · obtain rfl:z=(t:Int):=by omega
    have ht0:0<t:=by omega
    have hy:0<y:=by
     rcases Nat.eq_zero_or_pos y with h | h
     · have:=HT.out.2
       rw [h,pbg] at this
       simp at this
       omega
     · exact h
    obtain ⟨s,hs⟩:∃ s,s=t - 3:=⟨_,rfl⟩
    have hmax:max ((t:Int) - 3) 0=(s:Int):=by omega
    have hst:s≤t:=by omega
    have hs3:t - s≤3:=by omega
    have htx:t≤(bs r).length:=ht
    have HS:=Lib.hid hs
    have HY:=Lib.hid hy
    clear hz hs hy
    go_wp2_with fail
    go_loopw [5,6] (fun d k wq=>∃ m j:Nat,d=.int .i64 (m:Int)∧k=.int .i64 (j:Int)∧s≤j∧j≤t∧Hid (m=natB (((be x).drop s).take (j - s)))∧m≤16777215∧wq=wr) (fun _ k _=>t - (intOf k).toNat)
    case atStart=>exact ⟨0,s,rfl,rfl,Nat.le_refl _,hst,by show _=_;rw [Nat.sub_self,List.take_zero];rfl,by omega,rfl⟩
    case round =>
     obtain ⟨m,j,rfl,rfl,hj1,hj2,HM,hm,hwq⟩:=hrel
     by_cases hlt:j<t
     · have hjr:j<r.size:=by omega
       have hstep:natB (((be x).drop s).take (j+1 - s))=m * 256+r[j].toNat:=by
        rw [← HB.out,show j+1 - s=(j - s)+1 by omega,List.take_add_one,List.getElem?_drop,show s+(j - s)=j by omega,pf4 r j hjr,Option.toList_some,pbk,HB.out,← HM.out]
       have hle:m * 256+r[j].toNat≤16777215:=by
        rw [← hstep]
        have h1:=pdX (((be x).drop s).take (j+1 - s))
        have h2:(((be x).drop s).take (j+1 - s)).length≤3:=by rw [List.length_take];omega
        have h3:=Nat.pow_le_pow_right (n:=256) (by omega) h2
        have h4:(256:Nat) ^ 3=16777216:=rfl
        omega
       have HST:=Lib.hid hstep
       have hle1:(m:Int) * 256≤16777215:=by omega
       have hle2:(m:Int) * 256+(r[j].toNat:Int)≤16777215:=by omega
       subst hwq
       clear hstep
       go_wp2_with fail
       exact ⟨⟨m * 256+r[j].toNat,j+1,by go_num,by go_num,by omega,by omega,HST.out.symm,hle,by first | trivial | rfl⟩,by simp [intOf];omega⟩
     · obtain rfl:j=t:=by omega
       subst hwq
       have hbt:(be x).take j=be y:=HT.out.1
       have hlen:j=(be y).length:=HT.out.2
       have hmy:m=y % 16777216:=by
        rw [HM.out,← List.drop_take,hbt,HS.out,hlen,ppF]
       have hdy:dg x=(out ++ [m]) ++ dg (y / 16777216):=by
        rw [HO.out.2.1,pf1 HY.out,← hmy]
        simp
       have hnt:(be x).take s=be (y / 16777216):=by
        rw [piQ,← hlen,← hbt,List.take_take,← HS.out]
        congr 1
        omega
       have hns:s=(be (y / 16777216)).length:=by
        rw [piQ,List.length_take,← hlen,HS.out]
        omega
       have hq1:q+1≤100000000:=by
        have h1:=congrArg List.length hdy
        rw [List.length_append,List.length_append,List.length_singleton,HO.out.2.2] at h1
        omega
       obtain ⟨v',w',hrun,hown',hup'⟩:=paV wr _ q _ (m:Int) HROW.out (by omega)
       rw [← paO] at hown'
       have HRUN:=Lib.hid hrun
       have HOWN:=Lib.hid hown'
       have HUPP:=Lib.hid (HUP.out.trans hup')
       have HN:=Lib.hid (And.intro hnt hns)
       have HOO:Hid (okL (out ++ [m])∧dg x=(out ++ [m]) ++ dg (y / 16777216)∧(out ++ [m]).length=q+1):=⟨okL_snoc HO.out.1 (by omega),hdy,by rw [List.length_append,HO.out.2.2];rfl⟩
       have hz2:(((j:Int) - 3≤0∧-3<(j:Int) - 3∧s=0)∨(j:Int) - 3=(s:Int)):=by have:=HS.out;omega
       have hs4:s≤r.size:=by omega
       have hms:((j:Int) - 3).toNat<((j:Int)).toNat:=by omega
       clear hbt hlen hmy hdy hnt hns hrun hown' hup' HUP HROW hmax
       go_wp2_with (refine wpList_append_run _ rfl _ _ _ _ rfl _ _ v' w' rfl rfl HRUN.out ?_)
       exact ⟨⟨(j:Int) - 3,s,y / 16777216,q+1,out ++ [m],rfl,hz2,hs4,hq1,HN.out,HOO,HOWN.out,HUPP.out⟩,by simp only [intOf];exact hms⟩
  · have hy:y=0:=by
     rcases Nat.eq_zero_or_pos y with h | h
     · exact h
     · have h1:=phz h
       have h2:=HT.out.2
       omega
    have hout:dg x=out:=by rw [HO.out.2.1,hy,pcx,List.append_nil]
    have hown:=HROW.out
    rw [← HO.out.2.2] at hown
    have hsl:=Sl.of_row hown
    rw [← hout] at hsl
    have HSL:=Lib.hid hsl
    clear hy hout hown hsl hz
    go_wp2_with fail
    go_ret
    exact ⟨_,HSL.out,rfl,hup0⟩
end Go.Proofs.YtheobkejohifaaaGreatDoor
