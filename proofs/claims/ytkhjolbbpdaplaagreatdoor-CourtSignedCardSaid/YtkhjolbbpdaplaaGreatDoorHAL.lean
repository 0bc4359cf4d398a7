/- day.Decode at any text and what follows. -/
import Derived.Test.YtkhjolbbpdaplaaGreatDoorHAK
namespace Go.Proofs.YtkhjolbbpdaplaaGreatDoor
set_option maxHeartbeats 16000000
open Go.RowKit Go.Proofs.Tryz
set_option maxRecDepth 100000
abbrev xK:=@rounds_succ
abbrev yt:=@wp_loop_rounds
abbrev uk:=@List.length_eq_zero_iff
theorem pcR:∀ V A B C,V.length=B.length->paY (A ++ (B ++ C)).toArray A.length V=(A ++ (V ++ C)).toArray
 | [],A,[],C,_=>rfl
 | v :: r,A,b :: B,C,h=>by
  have e:(A ++ (b :: B ++ C)).toArray.setIfInBounds A.length v=((A ++ [v]) ++ (B ++ C)).toArray:=by
   rw [xS,ya _ _ (xj _),yC];simp
  have l:A.length+1=(A ++ [v]).length:=by simp
  rw [paY,e,l,pcR r (A ++ [v]) B C (by simpa using h)];simp
def psv (l:List UInt8) (w:World) (e:Ending) (w':World):Prop :=
 (∃ ev:EvG,Hid (pat l ev)/\e=.returned (.tuple #[.agg ev.V.toArray,.int .i64 0])/\Upd [] [] w w')\/(∃ Z:Array Value,Hid (Z=evZ.toArray)/\Hid (∀ ev,¬ pat l ev)/\e=.returned (.tuple #[.agg Z,.int .i64 11])/\Upd [] [] w w')
theorem pq4 (s) (hs:s.size<=1000000000) (w) (aa:Tabs w):Calls prog 208 #[.string s] w (psv (bs s) w):=by
 obtain ⟨v,ac⟩:=az (evZ.toArray);have U:Hid (prog.built 71 []=some v):=by rw [ac];exact pi9
 have z:Fi 71 v:=by rw [ac];exact pgi
 have T:Fo v:=by rw [ac];exact phe
 have Q:Hid (evZ.toArray.size=v.size):=by rw [ac];rfl
 have R:=ah ac;clear ac;obtain ⟨o,an⟩:=ae (w.heap.size);obtain ⟨w1,bm⟩:=ae (w.alloc (.cells zZ0 71));have r1:w1.heap[o]? =some (.cells evZ.toArray 71 (0,0)):=by rw [<-an,<-bm,paH];exact xi _ _
 have u1:=aU bm;have bP:=ah (pq3 s (by omega) w1 (aa.upd u1));have HW:=ah an;have Y:Hid (w.heap.size<=o):=xJ an;go_in;go_wp2_with fail;refine bP.out.mono ?_;rintro e w2 ⟨P,b4,HP,bh,bv,rfl,aY⟩;clear bP;obtain ⟨gP,bk⟩:=ae (w1.heap.size);have u2:Uq w1 w2:=by rw [aY];exact uR.alloc _
 have r2:w2.heap[gP]? =some (.cells (Lib.cellsOf P b4) 9 (0,0)):=by rw [<-bk,aY];exact xi _ _
 rw [bk];have n1:o<gP:=by rw [<-bk,<-an];exact paf (by rw [an];exact r1)
 have R1:=ah (paa r1 u2);have UD:=ah (u1.trans u2);have cH:=ah aY;have N1:=ah n1;clear aY u1 u2 r1 n1 bm;by_cases bn:P.length=10
 case neg =>
  have cJ:¬ (P.length:Int)=10:=by omega
  clear bh bv r2;have C:Hid (∀ c,¬ pat (bs s) c):=by
   intro c h;exact bn (by rw [<-yx (f:=bs),HP.out.1 c h];rfl)
  obtain ⟨X,F,D,E⟩:=pdn w o v w2 Y.out R1.out UD.out;go_wp2_with (first | (refine bB U ?_) | (refine bS R1 z Q T F ?_))
  refine bF D underlying71 z ?_;exact .inr ⟨v,R,C,rfl,E.out⟩
 obtain rfl:b4=10:=by omega
 obtain ⟨p0,p1,p2,p3,p4,p5,p6,p7,p8,p9,hP⟩:=ptF bn;have ab:Hid (p0.size<=s.size/\p1.size<=s.size/\p3.size<=s.size/\p4.size<=s.size/\p5.size<=s.size/\p6.size<=s.size/\p7.size<=s.size/\p9.size<=s.size):=by
  have h:=HP.out.2;rw [hP] at h;exact ⟨h _ (by simp),h _ (by simp),h _ (by simp),h _ (by simp),h _ (by simp),h _ (by simp),h _ (by simp),h _ (by simp)⟩
 have HC:Hid (∀ c,pat (bs s) c->bs p0=Lib.itoa c.r/\bs p1=Lib.itoa c.s/\bs p3=Lib.itoa c.q/\bs p4=Lib.itoa c.k/\bs p5=Lib.itoa c.h/\bs p6=Lib.itoa c.t/\bs p7=Lib.itoa c.n/\bs p8=hexL c.p/\bs p9=pbe (bs c.x)):=by
  intro c h;have e:=HP.out.1 c h;rw [hP] at e;simp only [zr,zU,EvG.parts,um,uZ] at e;obtain ⟨a1,a2,_,a3,a4,a5,a6,a7,a8,a9⟩:=e;exact ⟨a1,a2,a3,a4,a5,a6,a7,a8,a9⟩
 have RP:Hid (w2.heap[gP]? =some (.cells #[.string p0,.string p1,.string p2,.string p3,.string p4,.string p5,.string p6,.string p7,.string p8,.string p9] 9 (0,0))):=by
  have h:=r2;rw [hP] at h;exact h
 have cL:(P.length:Int)=10:=by omega
 have cK:=ah bh;subst hP;clear r2 HP bn bh bv;obtain ⟨gE,bW⟩:=ae (w2.heap.size);obtain ⟨w3,ca⟩:=ae (w2.alloc (.cells zZ0 71));have r3:w3.heap[gE]? =some (.cells evZ.toArray 71 (0,0)):=by rw [<-bW,<-ca,paH];exact xi _ _
 have u3:=aU ca;obtain ⟨K,b1⟩:=ae (w3.heap.size);obtain ⟨w4,bO⟩:=ae (w3.alloc (.cells #[.pointer (some ⟨gE,38,none⟩),.pointer (some ⟨gE,39,none⟩),.pointer none,.pointer (some ⟨gE,0,none⟩),.pointer (some ⟨gE,1,none⟩),.pointer (some ⟨gE,2,none⟩),.pointer (some ⟨gE,3,none⟩),.pointer (some ⟨gE,4,none⟩)] 281));have r4:=aW b1 bO;have u4:=aU bO;have n2:gP<gE:=by rw [<-bW];exact paf RP.out
 have n3:gE<K:=by rw [<-b1];exact paf r3
 have n1:=N1.out;have HN:=ah (xf n1 (xf n2 n3));have R2:=ah (paa (paa RP.out u3) u4);have aS:=ah (paa (paa R1.out u3) u4);have E0:=ah (paa r3 u4);have R4:=ah r4;have aL:=ah ((UD.out.trans u3).trans u4);have e2:gE≠gP:=by omega
 have e3:gE≠K:=by omega
 have e1:gE≠o:=by omega
 clear r3 r4 u3 u4 n1 n2 n3 RP R1 UD N1;go_wp2_with fail;refine yt 9 ?_;rw [xK];have G:=(xa _ K 0 _ _ _ R4.out).trans (show _=some (Value.pointer (some ⟨gE,38,none⟩)) from rfl);have H:=(xa _ gP 0 _ _ _ R2.out).trans (show _=some (Value.string p0) from rfl);go_wp2_with fail;refine (pcD p0 _ (by have:=ab.out.1;omega) (aa.upd aL.out)).mono ?_;rintro e y0 ⟨m0,ok,j,bC,rfl,hq⟩;have I0:=ah bC;obtain ⟨cr,cv⟩:=bC
 cases ok
 · have J:=ah (paa aS.out hq);have O:=ah (aL.out.trans hq);clear hq G H;have C:Hid (∀ c,¬ pat (bs s) c):=fun c h=>j.out.2.2 rfl ⟨_,h.1.2.2.2.2.2.2.1,(HC.out c h).1⟩;obtain ⟨X,F,D,E⟩:=pdn w o v y0 Y.out J.out O.out;go_wp2_with (first | (refine bB U ?_) | (refine bS J z Q T F ?_))
   refine bF D underlying71 z ?_;exact .inr ⟨v,R,C,rfl,E.out⟩
 have M0:Hid (bs p0=Lib.itoa m0):=j.out.2.1 rfl;have M:=(xa _ gE 38 _ _ _ (paa E0.out hq)).trans (show _=some (Value.int .i64 0) from rfl);have N:=xp _ gE 38 _ _ (paa E0.out hq);obtain ⟨z0,m⟩:=ae (y0.setCell ⟨gE,38,none⟩ (.int .i64 m0));have d:Upd [gE] [gE] y0 z0:=by rw [<-m];exact uR.setCell (p:=⟨gE,38,none⟩) (by simp) _
 have E1:=ah ((xU (fun W:World=>W.heap[gE]?) m.symm).trans (xg y0 gE 38 _ _ (.int .i64 m0) (paa E0.out hq)));have aF:=ah ((d.block gP (paf (paa R2.out hq)) (by simp;exact fun e=>e2 e.symm)).trans (paa R2.out hq));have aI:=ah ((d.block K (paf (paa R4.out hq)) (by simp;exact fun e=>e3 e.symm)).trans (paa R4.out hq));have aB:=ah ((d.block o (paf (paa aS.out hq)) (by simp;exact fun e=>e1 e.symm)).trans (paa aS.out hq));have aP:Hid (Uq w z0):=by have h:=(aL.out.trans hq).setNew (p:=⟨gE,38,none⟩) (show w.heap.size<=gE by have:=HW.out;have:=HN.out;omega) (.int .i64 m0);rw [m] at h;exact h
 clear G H hq d j E0 R2 R4 aS aL;go_wp2_with fail;clear M N m cr cv;rw [xK];have G:=(xa _ K 1 _ _ _ aI.out).trans (show _=some (Value.pointer (some ⟨gE,39,none⟩)) from rfl);have H:=(xa _ gP 1 _ _ _ aF.out).trans (show _=some (Value.string p1) from rfl);go_wp2_with fail;refine (pcD p1 _ (by have:=ab.out.2.1;omega) (aa.upd aP.out)).mono ?_;rintro e y1 ⟨m1,ok,j,b7,rfl,hq⟩;have I1:=ah b7;obtain ⟨ch,cq⟩:=b7
 cases ok
 · have J:=ah (paa aB.out hq);have O:=ah (aP.out.trans hq);clear hq G H;have C:Hid (∀ c,¬ pat (bs s) c):=fun c h=>j.out.2.2 rfl ⟨_,h.1.2.2.2.2.2.2.2,(HC.out c h).2.1⟩;obtain ⟨X,F,D,E⟩:=pdn w o v y1 Y.out J.out O.out;go_wp2_with (first | (refine bB U ?_) | (refine bS J z Q T F ?_))
   refine bF D underlying71 z ?_;exact .inr ⟨v,R,C,rfl,E.out⟩
 have M1:Hid (bs p1=Lib.itoa m1):=j.out.2.1 rfl;have M:=(xa _ gE 39 _ _ _ (paa E1.out hq)).trans (show _=some (Value.int .i64 0) from rfl);have N:=xp _ gE 39 _ _ (paa E1.out hq);obtain ⟨z1,m⟩:=ae (y1.setCell ⟨gE,39,none⟩ (.int .i64 m1));have d:Upd [gE] [gE] y1 z1:=by rw [<-m];exact uR.setCell (p:=⟨gE,39,none⟩) (by simp) _
 have E2:=ah ((xU (fun W:World=>W.heap[gE]?) m.symm).trans (xg y1 gE 39 _ _ (.int .i64 m1) (paa E1.out hq)));have ap:=ah ((d.block gP (paf (paa aF.out hq)) (by simp;exact fun e=>e2 e.symm)).trans (paa aF.out hq));have ag:=ah ((d.block K (paf (paa aI.out hq)) (by simp;exact fun e=>e3 e.symm)).trans (paa aI.out hq));have ax:=ah ((d.block o (paf (paa aB.out hq)) (by simp;exact fun e=>e1 e.symm)).trans (paa aB.out hq));have aM:Hid (Uq w z1):=by have h:=(aP.out.trans hq).setNew (p:=⟨gE,39,none⟩) (show w.heap.size<=gE by have:=HW.out;have:=HN.out;omega) (.int .i64 m1);rw [m] at h;exact h
 clear G H hq d j E1 aF aI aB aP;go_wp2_with fail;clear M N m ch cq;rw [xK];have G:=(xa _ K 2 _ _ _ ag.out).trans (show _=some (Value.pointer none) from rfl);go_wp2_with fail;clear G;rw [xK];have G:=(xa _ K 3 _ _ _ ag.out).trans (show _=some (Value.pointer (some ⟨gE,0,none⟩)) from rfl);have H:=(xa _ gP 3 _ _ _ ap.out).trans (show _=some (Value.string p3) from rfl);go_wp2_with fail;refine (pcD p3 _ (by have:=ab.out.2.2.1;omega) (aa.upd aM.out)).mono ?_;rintro e y3 ⟨m3,ok,j,bJ,rfl,hq⟩;have I3:=ah bJ;obtain ⟨cd,co⟩:=bJ
 cases ok
 · have J:=ah (paa ax.out hq);have O:=ah (aM.out.trans hq);clear hq G H;have C:Hid (∀ c,¬ pat (bs s) c):=fun c h=>j.out.2.2 rfl ⟨_,h.1.1,(HC.out c h).2.2.1⟩;obtain ⟨X,F,D,E⟩:=pdn w o v y3 Y.out J.out O.out;go_wp2_with (first | (refine bB U ?_) | (refine bS J z Q T F ?_))
   refine bF D underlying71 z ?_;exact .inr ⟨v,R,C,rfl,E.out⟩
 have M3:Hid (bs p3=Lib.itoa m3):=j.out.2.1 rfl;have M:=(xa _ gE 0 _ _ _ (paa E2.out hq)).trans (show _=some (Value.int .i64 0) from rfl);have N:=xp _ gE 0 _ _ (paa E2.out hq);obtain ⟨z3,m⟩:=ae (y3.setCell ⟨gE,0,none⟩ (.int .i64 m3));have d:Upd [gE] [gE] y3 z3:=by rw [<-m];exact uR.setCell (p:=⟨gE,0,none⟩) (by simp) _
 have E4:=ah ((xU (fun W:World=>W.heap[gE]?) m.symm).trans (xg y3 gE 0 _ _ (.int .i64 m3) (paa E2.out hq)));have aq:=ah ((d.block gP (paf (paa ap.out hq)) (by simp;exact fun e=>e2 e.symm)).trans (paa ap.out hq));have aE:=ah ((d.block K (paf (paa ag.out hq)) (by simp;exact fun e=>e3 e.symm)).trans (paa ag.out hq));have ay:=ah ((d.block o (paf (paa ax.out hq)) (by simp;exact fun e=>e1 e.symm)).trans (paa ax.out hq));have aK:Hid (Uq w z3):=by have h:=(aM.out.trans hq).setNew (p:=⟨gE,0,none⟩) (show w.heap.size<=gE by have:=HW.out;have:=HN.out;omega) (.int .i64 m3);rw [m] at h;exact h
 clear G H hq d j E2 ap ag ax aM;go_wp2_with fail;clear M N m cd co;rw [xK];have G:=(xa _ K 4 _ _ _ aE.out).trans (show _=some (Value.pointer (some ⟨gE,1,none⟩)) from rfl);have H:=(xa _ gP 4 _ _ _ aq.out).trans (show _=some (Value.string p4) from rfl);go_wp2_with fail;refine (pcD p4 _ (by have:=ab.out.2.2.2.1;omega) (aa.upd aK.out)).mono ?_;rintro e y4 ⟨m4,ok,j,b2,rfl,hq⟩;have I4:=ah b2;obtain ⟨ck,cs⟩:=b2
 cases ok
 · have J:=ah (paa ay.out hq);have O:=ah (aK.out.trans hq);clear hq G H;have C:Hid (∀ c,¬ pat (bs s) c):=fun c h=>j.out.2.2 rfl ⟨_,h.1.2.1,(HC.out c h).2.2.2.1⟩;obtain ⟨X,F,D,E⟩:=pdn w o v y4 Y.out J.out O.out;go_wp2_with (first | (refine bB U ?_) | (refine bS J z Q T F ?_))
   refine bF D underlying71 z ?_;exact .inr ⟨v,R,C,rfl,E.out⟩
 have M4:Hid (bs p4=Lib.itoa m4):=j.out.2.1 rfl;have M:=(xa _ gE 1 _ _ _ (paa E4.out hq)).trans (show _=some (Value.int .i64 0) from rfl);have N:=xp _ gE 1 _ _ (paa E4.out hq);obtain ⟨z4,m⟩:=ae (y4.setCell ⟨gE,1,none⟩ (.int .i64 m4));have d:Upd [gE] [gE] y4 z4:=by rw [<-m];exact uR.setCell (p:=⟨gE,1,none⟩) (by simp) _
 have E5:=ah ((xU (fun W:World=>W.heap[gE]?) m.symm).trans (xg y4 gE 1 _ _ (.int .i64 m4) (paa E4.out hq)));have aG:=ah ((d.block gP (paf (paa aq.out hq)) (by simp;exact fun e=>e2 e.symm)).trans (paa aq.out hq));have aA:=ah ((d.block K (paf (paa aE.out hq)) (by simp;exact fun e=>e3 e.symm)).trans (paa aE.out hq));have aD:=ah ((d.block o (paf (paa ay.out hq)) (by simp;exact fun e=>e1 e.symm)).trans (paa ay.out hq));have aT:Hid (Uq w z4):=by have h:=(aK.out.trans hq).setNew (p:=⟨gE,1,none⟩) (show w.heap.size<=gE by have:=HW.out;have:=HN.out;omega) (.int .i64 m4);rw [m] at h;exact h
 clear G H hq d j E4 aq aE ay aK;go_wp2_with fail;clear M N m ck cs;rw [xK];have G:=(xa _ K 5 _ _ _ aA.out).trans (show _=some (Value.pointer (some ⟨gE,2,none⟩)) from rfl);have H:=(xa _ gP 5 _ _ _ aG.out).trans (show _=some (Value.string p5) from rfl);go_wp2_with fail;refine (pcD p5 _ (by have:=ab.out.2.2.2.2.1;omega) (aa.upd aT.out)).mono ?_;rintro e y5 ⟨m5,ok,j,bZ,rfl,hq⟩;have I5:=ah bZ;obtain ⟨cg,cu⟩:=bZ
 cases ok
 · have J:=ah (paa aD.out hq);have O:=ah (aT.out.trans hq);clear hq G H;have C:Hid (∀ c,¬ pat (bs s) c):=fun c h=>j.out.2.2 rfl ⟨_,h.1.2.2.1,(HC.out c h).2.2.2.2.1⟩;obtain ⟨X,F,D,E⟩:=pdn w o v y5 Y.out J.out O.out;go_wp2_with (first | (refine bB U ?_) | (refine bS J z Q T F ?_))
   refine bF D underlying71 z ?_;exact .inr ⟨v,R,C,rfl,E.out⟩
 have M5:Hid (bs p5=Lib.itoa m5):=j.out.2.1 rfl;have M:=(xa _ gE 2 _ _ _ (paa E5.out hq)).trans (show _=some (Value.int .i64 0) from rfl);have N:=xp _ gE 2 _ _ (paa E5.out hq);obtain ⟨z5,m⟩:=ae (y5.setCell ⟨gE,2,none⟩ (.int .i64 m5));have d:Upd [gE] [gE] y5 z5:=by rw [<-m];exact uR.setCell (p:=⟨gE,2,none⟩) (by simp) _
 have E6:=ah ((xU (fun W:World=>W.heap[gE]?) m.symm).trans (xg y5 gE 2 _ _ (.int .i64 m5) (paa E5.out hq)));have ao:=ah ((d.block gP (paf (paa aG.out hq)) (by simp;exact fun e=>e2 e.symm)).trans (paa aG.out hq));have aw:=ah ((d.block K (paf (paa aA.out hq)) (by simp;exact fun e=>e3 e.symm)).trans (paa aA.out hq));have au:=ah ((d.block o (paf (paa aD.out hq)) (by simp;exact fun e=>e1 e.symm)).trans (paa aD.out hq));have aN:Hid (Uq w z5):=by have h:=(aT.out.trans hq).setNew (p:=⟨gE,2,none⟩) (show w.heap.size<=gE by have:=HW.out;have:=HN.out;omega) (.int .i64 m5);rw [m] at h;exact h
 clear G H hq d j E5 aG aA aD aT;go_wp2_with fail;clear M N m cg cu;rw [xK];have G:=(xa _ K 6 _ _ _ aw.out).trans (show _=some (Value.pointer (some ⟨gE,3,none⟩)) from rfl);have H:=(xa _ gP 6 _ _ _ ao.out).trans (show _=some (Value.string p6) from rfl);go_wp2_with fail;refine (pcD p6 _ (by have:=ab.out.2.2.2.2.2.1;omega) (aa.upd aN.out)).mono ?_;rintro e y6 ⟨m6,ok,j,bD,rfl,hq⟩;have I6:=ah bD;obtain ⟨cl,cm⟩:=bD
 cases ok
 · have J:=ah (paa au.out hq);have O:=ah (aN.out.trans hq);clear hq G H;have C:Hid (∀ c,¬ pat (bs s) c):=fun c h=>j.out.2.2 rfl ⟨_,h.1.2.2.2.1,(HC.out c h).2.2.2.2.2.1⟩;obtain ⟨X,F,D,E⟩:=pdn w o v y6 Y.out J.out O.out;go_wp2_with (first | (refine bB U ?_) | (refine bS J z Q T F ?_))
   refine bF D underlying71 z ?_;exact .inr ⟨v,R,C,rfl,E.out⟩
 have M6:Hid (bs p6=Lib.itoa m6):=j.out.2.1 rfl;have M:=(xa _ gE 3 _ _ _ (paa E6.out hq)).trans (show _=some (Value.int .i64 0) from rfl);have N:=xp _ gE 3 _ _ (paa E6.out hq);obtain ⟨z6,m⟩:=ae (y6.setCell ⟨gE,3,none⟩ (.int .i64 m6));have d:Upd [gE] [gE] y6 z6:=by rw [<-m];exact uR.setCell (p:=⟨gE,3,none⟩) (by simp) _
 have E7:=ah ((xU (fun W:World=>W.heap[gE]?) m.symm).trans (xg y6 gE 3 _ _ (.int .i64 m6) (paa E6.out hq)));have aJ:=ah ((d.block gP (paf (paa ao.out hq)) (by simp;exact fun e=>e2 e.symm)).trans (paa ao.out hq));have aC:=ah ((d.block K (paf (paa aw.out hq)) (by simp;exact fun e=>e3 e.symm)).trans (paa aw.out hq));have aH:=ah ((d.block o (paf (paa au.out hq)) (by simp;exact fun e=>e1 e.symm)).trans (paa au.out hq));have aR:Hid (Uq w z6):=by have h:=(aN.out.trans hq).setNew (p:=⟨gE,3,none⟩) (show w.heap.size<=gE by have:=HW.out;have:=HN.out;omega) (.int .i64 m6);rw [m] at h;exact h
 clear G H hq d j E6 ao aw au aN;go_wp2_with fail;clear M N m cl cm;rw [xK];have G:=(xa _ K 7 _ _ _ aC.out).trans (show _=some (Value.pointer (some ⟨gE,4,none⟩)) from rfl);have H:=(xa _ gP 7 _ _ _ aJ.out).trans (show _=some (Value.string p7) from rfl);go_wp2_with fail;refine (pcD p7 _ (by have:=ab.out.2.2.2.2.2.2.1;omega) (aa.upd aR.out)).mono ?_;rintro e y7 ⟨m7,ok,j,bK,rfl,hq⟩;have I7:=ah bK;obtain ⟨cj,ce⟩:=bK
 cases ok
 · have J:=ah (paa aH.out hq);have O:=ah (aR.out.trans hq);clear hq G H;have C:Hid (∀ c,¬ pat (bs s) c):=fun c h=>j.out.2.2 rfl ⟨_,h.1.2.2.2.2.1,(HC.out c h).2.2.2.2.2.2.1⟩;obtain ⟨X,F,D,E⟩:=pdn w o v y7 Y.out J.out O.out;go_wp2_with (first | (refine bB U ?_) | (refine bS J z Q T F ?_))
   refine bF D underlying71 z ?_;exact .inr ⟨v,R,C,rfl,E.out⟩
 have M7:Hid (bs p7=Lib.itoa m7):=j.out.2.1 rfl;have M:=(xa _ gE 4 _ _ _ (paa E7.out hq)).trans (show _=some (Value.int .i64 0) from rfl);have N:=xp _ gE 4 _ _ (paa E7.out hq);obtain ⟨z7,m⟩:=ae (y7.setCell ⟨gE,4,none⟩ (.int .i64 m7));have d:Upd [gE] [gE] y7 z7:=by rw [<-m];exact uR.setCell (p:=⟨gE,4,none⟩) (by simp) _
 have E8:=ah ((xU (fun W:World=>W.heap[gE]?) m.symm).trans (xg y7 gE 4 _ _ (.int .i64 m7) (paa E7.out hq)));have br:=ah ((d.block gP (paf (paa aJ.out hq)) (by simp;exact fun e=>e2 e.symm)).trans (paa aJ.out hq));have ct:=ah ((d.block K (paf (paa aC.out hq)) (by simp;exact fun e=>e3 e.symm)).trans (paa aC.out hq));have bp:=ah ((d.block o (paf (paa aH.out hq)) (by simp;exact fun e=>e1 e.symm)).trans (paa aH.out hq));have bT:Hid (Uq w z7):=by have h:=(aR.out.trans hq).setNew (p:=⟨gE,4,none⟩) (show w.heap.size<=gE by have:=HW.out;have:=HN.out;omega) (.int .i64 m7);rw [m] at h;exact h
 clear G H hq d j E7 aJ aC aH aR;go_wp2_with fail;clear M N m cj ce;obtain ⟨EN,bl⟩:=az (([.int .i64 m3,.int .i64 m4,.int .i64 m5,.int .i64 m6,.int .i64 m7,.string ⟨#[]⟩] ++ (byteVals zero32 ++ [.int .i64 m0,.int .i64 m1]):List Value).toArray);have EE:Fr z7 gE EN 71:=by rw [bl];have h:=E8.out;exact h
 have RP:=br;have RR:=bp;have cb:=bT;clear E8 br ct bp bT;rw [xK];have cF:=(xa _ gP 8 _ _ _ RP.out).trans (show _=some (Value.string p8) from rfl);go_wp2_with fail;have bf:=ah bl;clear bl;refine (pgd p8 z7).mono ?_;rintro e y8 ⟨h',ok,j,rfl,hq⟩;obtain ⟨Z,af⟩:=az ((byteVals h').toArray);rw [<-af];have ar:h'.length=32:=j.out.1;have aO:Fi 60 Z:=by rw [af];exact hashInfo ar
 have bi:Fo Z:=by rw [af];exact hashOne _
 have b9:Hid (Z.size=32):=by show _=_;rw [af];simp [byteVals,ar]
 have cG:=ah af;have bt:=ah ar;clear ar af;obtain ⟨y9,Z9,W9,R9,al⟩:=paz y8 60 (zZ2:Array Value) Z;have b3:Hid (((zZ2:Array Value):Array Value).size=Z.size):=by show _=_;rw [b9.out];rfl
 obtain ⟨gH,bz⟩:=ae (y8.heap.size);have cy:gE<y8.heap.size:=xA (paf EE.out) hq.size;have bI:w.heap.size<=gE:=by have:=HW.out;have:=HN.out;omega
 have bx:gE<gH:=by omega
 rw [bz] at R9 Z9 W9;have E9:=ah (paa (paa EE.out hq) al);have P9:=ah (paa (paa RP.out hq) al);have Q9:=ah (paa (paa RR.out hq) al);have aV:=ah ((cb.out.trans hq).trans al);have b5:=ah (xf bI bx);clear cF hq al EE RP RR cb cy bI bx;have M8:Hid (ok=true->bs p8=hexL h'):=j.out.2.1;have G8:Hid (ok=false->∀ c,¬ pat (bs s) c):=fun hf c h=>(j.out.2.2 hf).2 c.p h.1.2.2.2.2.2.1 (HC.out c h).2.2.2.2.2.2.2.1;clear j
 cases ok
 · clear R9;have C:Hid (∀ c,¬ pat (bs s) c):=G8.out rfl;obtain ⟨X,F,D,E⟩:=pdn w o v y9 Y.out Q9.out aV.out;go_wp2_with (first | (refine bS Z9 aO b3 bi W9 ?_) | (refine bB U ?_) | (refine bS Q9 z Q T F ?_))
   refine bF D underlying71 z ?_;exact .inr ⟨v,R,C,rfl,E.out⟩
 have cB:=(xa _ gP 9 _ _ _ P9.out).trans (show _=some (Value.string p9) from rfl);go_wp2_with (refine bS Z9 aO b3 bi W9 ?_)
 refine (puj p9 y9 (by have:=ab.out.2.2.2.2.2.2.2;omega) (aa.upd aV.out)).mono ?_;rintro e x1 ⟨t,r,ok,j,ht,hr,rfl,hq⟩;have Q1:=ah (paa Q9.out hq);have ba:=ah (aV.out.trans hq);have E1:=ah (paa E9.out hq);have H1:=ah (paa R9.out hq);clear hq cB E9 Q9 aV R9 Z9 W9 P9
 cases ok
 · clear E1 H1;have C:Hid (∀ c,¬ pat (bs s) c):=fun c h=>j.out.2 rfl (bs c.x) [] (by have:=h.size;rw [pac] at this ⊢;omega) (by rw [yl];exact (HC.out c h).2.2.2.2.2.2.2.2);obtain ⟨X,F,D,E⟩:=pdn w o v x1 Y.out Q1.out ba.out;go_wp2_with (first | (refine bB U ?_) | (refine bS Q1 z Q T F ?_))
   refine bF D underlying71 z ?_;exact .inr ⟨v,R,C,rfl,E.out⟩
 by_cases a0:r=⟨#[]⟩
 case neg =>
  have g1:(r.toList == (ByteArray.mk #[]).toList)=false:=by rw [<-yK];exact fun h=>a0 (paT (pbM.1 h))
  have bU:¬ r.toList=[]:=fun e=>a0 (paT (by rw [yi] at e;exact e));have cM:(r.toList == [])=false:=xm.2 bU;have cI:r.toList.isEmpty=false:=by simpa using bU
  have cC:(bs r).length≠0:=fun h=>a0 (paT (by rw [uk.1 h];rfl));clear E1 H1;have C:Hid (∀ c,¬ pat (bs s) c):=by
   intro c h;have e:=j.out.1 rfl;rw [(HC.out c h).2.2.2.2.2.2.2.2] at e;have e2:=plX (a:=bs c.x) (b:=bs t) (A:=[]) (B:=bs r) (by have:=h.size;rw [pac] at this ⊢;omega) (by have:=ab.out.2.2.2.2.2.2.2;rw [pac];omega) (by rw [yl];exact e);exact cC (xU List.length e2.2.symm)
  obtain ⟨X,F,D,E⟩:=pdn w o v x1 Y.out Q1.out ba.out;go_wp2_with (first | (refine bB U ?_) | (refine bS Q1 z Q T F ?_))
  refine bF D underlying71 z ?_;exact .inr ⟨v,R,C,rfl,E.out⟩
 subst a0;have M9:Hid (bs p9=pbe (bs t)):=by show _=_;rw [j.out.1 rfl];simp [bs]
 have g1:((ByteArray.mk #[]).toList == (ByteArray.mk #[]).toList)=true:=beq_self_eq_true _;clear j hr;obtain ⟨c,aj⟩:∃ c:EvG,c=⟨m3,m4,m5,m6,m7,t,h',m0,m1⟩:=⟨_,rfl⟩
 have bb:Hid (c.ok):=by rw [aj];exact ⟨I3.out,I4.out,I5.out,I6.out,I7.out,bt.out,I0.out,I1.out⟩
 have cD:Hid (c.x.size<=1000000000):=by rw [aj];exact xB ht (xB ab.out.2.2.2.2.2.2.2 hs)
 have bc:c.p.length=32:=bb.out.2.2.2.2.2.1;have cc:Hid (∀ am,pat (bs s) am->bs s=c.code):=by
  intro am h;rw [aj];obtain ⟨c0,c1,c3,c4,c5,c6,c7,c8,c9⟩:=HC.out am h;exact h.2.trans (poQ (c0.symm.trans M0.out) (c1.symm.trans M1.out) (c3.symm.trans M3.out) (c4.symm.trans M4.out) (c5.symm.trans M5.out) (c6.symm.trans M6.out) (c7.symm.trans M7.out) (c8.symm.trans (M8.out (by first | rfl | trivial))) (c9.symm.trans M9.out))
 obtain ⟨EV,ad⟩:=az (c.V.toArray);have av:Fi 71 EV:=by rw [ad];exact EvG.info bc
 have ci:Fo EV:=by rw [ad];exact c.one
 have cw:Hid (evZ.toArray.size=EV.size):=by show _=_;rw [ad,pcr];exact (EvG.V_len bc).symm
 have b0:Hid (Z.toList=byteVals h'):=by show _=_;rw [cG.out]
 have bq:paY EN 6 Z.toList=([.int .i64 m3,.int .i64 m4,.int .i64 m5,.int .i64 m6,.int .i64 m7,.string ⟨#[]⟩] ++ (byteVals h' ++ [.int .i64 m0,.int .i64 m1]):List Value).toArray:=by
  rw [bf.out,b0.out];exact pcR (byteVals h') [.int .i64 m3,.int .i64 m4,.int .i64 m5,.int .i64 m6,.int .i64 m7,.string ⟨#[]⟩] (byteVals zero32) [.int .i64 m0,.int .i64 m1] (by rw [pak,pak,bt.out];rfl)
 have TH:Hid (x1.there gE 6 Z.size):=pay E1.out (by rw [b9.out,bf.out];simp [byteVals,zero32]);obtain ⟨x2,ai⟩:=ae (x1.setCells gE 6 Z.toList);have E2:=paP gE _ Z.toList 6 x1 _ E1.out;rw [ai,bq] at E2;have c5:x2.cell? ⟨gE,5,none⟩=some (.string ⟨#[]⟩):=(xa _ gE 5 _ _ _ E2).trans rfl;have f5:=xp _ gE 5 _ _ E2;obtain ⟨x3,aZ⟩:=ae (x2.setCell ⟨gE,5,none⟩ (.string t));have E3:=xg x2 gE 5 _ _ (.string t) E2;rw [aZ] at E3;have bw:(([.int .i64 m3,.int .i64 m4,.int .i64 m5,.int .i64 m6,.int .i64 m7,.string ⟨#[]⟩] ++ (byteVals h' ++ [.int .i64 m0,.int .i64 m1]):List Value).toArray).setIfInBounds 5 (.string t)=EV:=by
  rw [ad,aj,xS];rfl
 rw [bw] at E3;have bd:Hid (Uq w x3):=by
  have h:=(Upd.setCellsNew b5.out.1 Z.toList 6 _ ba.out).setNew (p:=⟨gE,5,none⟩) b5.out.1 (.string t);rw [ai,aZ] at h;exact h
 have d:Upd [gE] [gE] x1 x3:=by
  have h:=(Upd.setCellsIn (g:=gE) (S:=[gE]) (S':=[gE]) (by simp) Z.toList 6 _ (Upd.refl [gE] x1)).setCell (p:=⟨gE,5,none⟩) (by simp) (.string t);rw [ai,aZ] at h;exact h
 have Q3:Fr x3 o evZ.toArray 71:=(d.block o (paf Q1.out) (by simp;exact fun e=>e1 e.symm)).trans Q1.out;have b6:=ah ai;have bg:=ah E3;have bu:=ah ad;have HT:=ah (fun W (u:Uq w W)=>pq2 c bb.out cD.out W (aa.upd u));clear E1 E2 bw d ba ai E3 ad bz bq aj bf b0 bc M0 M1 M3 M4 M5 M6 M7 M8 M9 HC Q1;go_wp2_with (first | (refine bL H1 underlying60 aO ?_) | (refine bM TH aO bi b6 ?_) | (refine bL bg underlying71 av ?_))
 rw [bu.out];refine (HT.out x3 bd.out).mono ?_;rintro e x4 ⟨y,HY,_,rfl,hq⟩;have E4:=ah (paa bg.out hq);have Q4:=ah (paa Q3.out hq);have bo:=ah (bd.out.trans hq);clear hq bg Q3 bd H1 TH b6 aZ c5 f5;by_cases ak:y=s
 case neg =>
  have g1:(y.toList == s.toList)=false:=by rw [<-yK];exact fun h=>ak (paT (pbM.1 h))
  clear E4;have C:Hid (∀ c,¬ pat (bs s) c):=fun am h=>ak (paT (HY.out.trans (cc.out am h).symm));obtain ⟨X,F,D,E⟩:=pdn w o v x4 Y.out Q4.out bo.out;go_wp2_with (first | (refine bB U ?_) | (refine bS Q4 z Q T F ?_))
  refine bF D underlying71 z ?_;exact .inr ⟨v,R,C,rfl,E.out⟩
 have g1:(y.toList == s.toList)=true:=pbM.2 (by rw [ak]);have cz:Hid (pat (bs s) c):=⟨bb.out,by rw [<-ak];exact HY.out⟩
 obtain ⟨x5,aQ⟩:=ae (x4.setRow o EV);have R5:(x4.setRow o EV).heap[o]? =some (.cells EV 71 (0,0)):=xz _ _ _ _ _ _ Q4.out;rw [aQ] at R5;have bj:=bo.out.setRowNew (show w.heap.size<=o from xJ HW.out) EV;rw [aQ] at bj;have cx:=ah aQ;have cA:=ah R5;have cf:=ah bj;clear HY bo aQ R5 bj ak;go_wp2_with (first | (refine bL E4 underlying71 av ?_) | (refine bS Q4 av cw ci cx ?_))
 refine bF cA underlying71 av ?_;exact .inl ⟨c,cz,by rw [bu.out];rfl,cf.out⟩
def EvR (l:List UInt8) (EV:Array Value) (b:Bool):Prop:=(b=true/\∃ ev:EvG,pat l ev/\EV=ev.V.toArray)\/(b=false/\(∀ ev,¬ pat l ev)/\EV=evZ.toArray)
theorem EvR.info {l a b} (h:EvR l a b):(prog.info? 71).map (·.size)=some a.size/\a.all (·.oneCell')=true/\evZ.toArray.size=a.size:=by
 rcases h with ⟨_,d,h,rfl⟩ | ⟨_,_,rfl⟩
 · have c:=h.1.2.2.2.2.2.1;exact ⟨EvG.info c,d.one,by rw [pcr];exact (EvG.V_len c).symm⟩
 · exact ⟨pgi,phe,rfl⟩
theorem EvR.seq {l f b} (h:EvR l f b) (g:l.length<=1000000000):∃ q,pab q/\f[0]? =some (.int .i64 q)/\(∀ a,pat l a->b=true/\q=a.q)/\((∀ a,¬ pat l a)->b=false):=by
 rcases h with ⟨rfl,a,h,rfl⟩ | ⟨rfl,d,rfl⟩
 · refine ⟨a.q,h.1.1,rfl,fun e c=>⟨rfl,?_⟩,fun d=>absurd h (d a)⟩;rw [pdQ h c (by have:=h.size;omega) (by have:=c.size;omega)]
 · exact ⟨0,⟨by omega,by omega⟩,rfl,fun e c=>absurd c (d e),fun _=>rfl⟩
theorem psv.out {l:List UInt8} {w w':World} {e:Ending} (h:psv l w e w'):∃ (a:Array Value) (b:Bool),Hid (EvR l a b)/\e=.returned (.tuple #[.agg a,.int .i64 (if b=true then 0 else 11)])/\Uq w w':=by
 rcases h with ⟨f,h,e,u⟩ | ⟨Z,c,d,e,u⟩
 · exact ⟨_,true,.inl ⟨rfl,f,h.out,rfl⟩,e,u⟩
 · exact ⟨Z,false,.inr ⟨rfl,d.out,c.out⟩,e,u⟩
def pul (l:List UInt8) (w:World) (e:Ending) (w':World):Prop:=∃ (EV:Array Value) (b:Bool),Hid (EvR l EV b)/\e=.returned (.tuple #[.agg EV,.bool b])/\Upd [] [] w w'
def preE:List UInt8:=[48,32,48,32]
theorem pja (T) (W:T.size<=900000000) (w) (Q:Tabs w):Calls prog 162 #[.string T] w (pul (preE ++ bs T) w):=by
 obtain ⟨g,O⟩:=ae (w.heap.size);obtain ⟨M,z⟩:=ae (w.alloc (.cells zZ0 71));have K:=ah (show M.heap[g]? =some (.cells evZ.toArray 71 (0,0)) by rw [<-O,<-z,paH];exact xi _ _);have n:=ah (aU z);have U:¬ 9223372036854775807<4+T.size:=by omega
 obtain ⟨s,H⟩:=ae (ByteArray.mk #[48,32,48,32] ++ T);have t:bs s=preE ++ bs T:=by rw [<-H,pae];rfl
 have E:s.size<=1000000000:=by
  have:=xU List.length t;rw [pac,xr,pac] at this;have:preE.length=4:=rfl;omega
 have j:=ah (pq4 s E M (Q.upd n.out));rw [t] at j;have S:Hid (w.heap.size<=g):=xJ O;obtain ⟨l,F⟩:=ae (preE ++ bs T);rw [F] at j ⊢;clear W t E F;go_in;go_wp2_with fail;refine j.out.mono ?_;intro e G P;obtain ⟨c,b,d,rfl,hq⟩:=P.out;clear P;have a:=ah d.out.info.1;have f:=ah d.out.info.2.1;have m:=ah d.out.info.2.2;have q:=ah (paa K.out hq);have y:=ah (n.out.trans hq);obtain ⟨J,h,k,v,o⟩:=paz G 71 evZ.toArray c;rw [<-paH] at h k;obtain ⟨gE,D⟩:=ae (G.heap.size);have X:g<gE:=by rw [<-D];exact paf q.out
 rw [D] at h k v;have C:Hid ((zZ0:Array Value).size=c.size):=by show _=_;rw [paH];exact m.out
 have u:=ah (paa q.out o);have R:=ah (y.out.trans o);obtain ⟨Y,p⟩:=ae (J.setRow g c);have x:(J.setRow g c).heap[g]? =some (.cells c 71 (0,0)):=xz _ _ _ _ _ _ u.out;have r:=R.out.setRowNew S.out c;rw [p] at x r;have A:=ah p;have N:=ah x;have B:=ah r;clear hq o j K q n y p x r H U
 cases b
 · go_wp2_with (first | (refine bS h a C f k ?_) | (refine bL v underlying71 a ?_) | (refine bS u a m f A ?_))
   refine bF N underlying71 a ?_;exact ⟨c,false,d,rfl,B.out⟩
 · go_wp2_with (first | (refine bS h a C f k ?_) | (refine bL v underlying71 a ?_) | (refine bS u a m f A ?_))
   refine bF N underlying71 a ?_;exact ⟨c,true,d,rfl,B.out⟩
def evX (c:UInt8) (r s:Int):EvG:=⟨5,4,3,0,0,⟨#[c]⟩,zero32,r,s⟩
theorem pum (c r s):(evX c r s).V=evV c r s:=rfl
theorem plY (c r s):(evX c r s).text=tOf c:=by
 rw [<-EvG.text_join,<-pqW];show Lib.join [wEv,Lib.itoa 5,Lib.itoa 4,Lib.itoa 3,Lib.itoa 0,Lib.itoa 0,hexL zero32,Lib.itoa 1 ++ 58 :: [c]] [32]=_;rw [pty,ptz,poH,ptA,pqV,show Lib.itoa 3=[51] from pgf 3 (by omega)];rfl
theorem prX (c) {r s} (a:pab r) (d:pab s):(evX c r s).ok:=⟨by unfold pab;simp [evX],by unfold pab;simp [evX],by unfold pab;simp [evX],by unfold pab;simp [evX],by unfold pab;simp [evX],rfl,a,d⟩
theorem pjb (c r s) (d:pab r) (e:pab s) (w) (a:Tabs w):Calls prog 51 #[.agg (evV c r s).toArray] w (MkS (tOf c) w):=by
 rw [<-plY c r s,<-pum c r s];exact prW (evX c r s) (prX c d e) (by show 1<=_;omega) w a
theorem pjc (c T) (f:bs T=tOf c) (w) (g:Tabs w):Calls prog 162 #[.string T] w (Mk (.tuple #[.agg (evV c 0 0).toArray,.bool true]) w):=by
 have j:T.size=84:=by rw [<-pac,f,phY]
 have d:pab 0:=by unfold pab;omega
 have a:pat (preE ++ bs T) (evX c 0 0):=⟨prX c d d,by
  show _=Lib.itoa 0 ++ 32 :: (Lib.itoa 0 ++ 32 :: (evX c 0 0).text);rw [f,plY,poH];rfl⟩
 refine (pja T (by omega) w g).mono ?_;rintro e w' ⟨p,b,m,rfl,n⟩;rcases m.out with ⟨rfl,q,h,rfl⟩ | ⟨_,k,_⟩
 · have o:(preE ++ bs T).length=88:=by rw [xr,pac,j];rfl
   have e:=pdQ h a (by have:=h.size;omega) (by have:=a.size;omega);rw [e];exact ⟨rfl,n⟩
 · exact absurd a (k _)
theorem peS (a b):(prog.info? 39).map (·.size)=some (#[.int .i64 a,.int .i64 b]:Array Value).size:=by
 show _=some 2;kernel_rfl
theorem poR (a b):(#[.int .i64 a,.int .i64 b]:Array Value).all (·.oneCell')=true:=by simp [Value.oneCell']
def MkEv (c:UInt8) (x:Nat) (w:World) (e:Ending) (w':World):Prop :=
 ∃ a b:Nat,Hid (a=gP (nonceN x (tOf c)))/\Hid (b=sWith x (nonceN x (tOf c)) (tOf c))/\a<2305843009213691579/\b<1152921504606845789/\e=.returned (.agg (evV c a b).toArray)/\Upd [] [] w w'
theorem pjd (c) (x:Nat) (hx:x<1152921504606845789) (w) (J:Tabs w):Calls prog 13 #[x,.agg (evV c 0 0).toArray] w (MkEv c x w):=by
 obtain ⟨G,p⟩:=az ((evV c 0 0).toArray);have q:=ah p;have aa:Fi 71 G:=by rw [p];exact phd c 0 0
 obtain ⟨g,X⟩:=ae (w.heap.size);obtain ⟨U,O⟩:=ae (w.alloc (.cells G 71));have v:=aW X O;have u0:=aU O;obtain ⟨gR,N⟩:=ae (U.heap.size);obtain ⟨R,P⟩:=ae (U.alloc (.cells zZ0 71));have r1:R.heap[gR]? =some (.cells evZ.toArray 71 (0,0)):=by rw [<-N,<-P,paH];exact xi _ _
 have A:=aU P;have ao:g<gR:=by rw [<-N];exact paf v
 have H:=ah (paa v A);have R1:=ah r1;have z:=ah (u0.trans A);have HG:=ah X;rw [<-p];clear p v u0 r1 A;go_in;go_wp2_with (refine bL H underlying71 aa ?_)
 rw [q.out];refine (pjb c 0 0 (by unfold pab;omega) (by unfold pab;omega) R (J.upd z.out)).mono ?_;rintro e w2 ⟨T,HT,_,rfl,hq⟩;have R2:=ah (paa H.out hq);have W:=ah (paa R1.out hq);have C:=ah (z.out.trans hq);have M:T.size<=140737488355000:=by rw [<-pac,HT.out,phY];omega
 clear hq H R1 z;rw [<-q.out];go_wp2_with fail;refine (plE (x:Int) T w2 ⟨by omega,by omega⟩ M (J.upd C.out)).mono ?_;rintro e n ⟨a,b,Y,Z,ha,hb,rfl,hq⟩;rw [HT.out,show expN (x:Int)=x from peb hx] at Y Z;have B:=ah (paa R2.out hq);have D:=ah (paa W.out hq);have U3:=ah (C.out.trans hq);obtain ⟨d,j⟩:∃ d:Array Value,d=#[.int .i64 (a:Int),.int .i64 (b:Int)]:=⟨_,rfl⟩
 rw [<-j];have an:Fi 39 d:=by rw [j];exact peS _ _
 have al:Fo d:=by rw [j];exact poR _ _
 have TH:Hid (n.there g 38 d.size):=pay B.out (by rw [q.out,j,show (evV c 0 0).toArray.size=40 from pdz c 0 0];exact (by decide:38+2<=40));obtain ⟨t,m⟩:=ae (n.setCells g 38 d.toList);have r:=paP g _ d.toList 38 n _ B.out;rw [m] at r;obtain ⟨f,k⟩:=az ((evV c a b).toArray);have K:paY G 38 d.toList=f:=by rw [q.out,j,k];rfl
 rw [K] at r;have u:Fi 71 f:=by rw [k];exact phd c _ _
 have ab:Fo f:=by rw [k];exact poP c _ _
 have ac:Hid (evZ.toArray.size=f.size):=by show _=_;rw [k,pcr];exact (pdz c _ _).symm
 have am:w.heap.size<=g:=xJ HG.out;have E:=Upd.setCellsNew am d.toList 38 _ U3.out;rw [m] at E;have Q:Upd [g] [g] n t:=by
  have h:=(Upd.setCellsIn (g:=g) (S:=[g]) (S':=[g]) (by simp) d.toList 38 _ (Upd.refl [g] n))
  rw [m] at h;exact h
 have Q4:Fr t gR evZ.toArray 71:=(Q.block gR (paf D.out) (by simp;omega)).trans D.out;obtain ⟨w5,o⟩:=ae (t.setRow gR f);have y:(t.setRow gR f).heap[gR]? =some (.cells f 71 (0,0)):=xz _ _ _ _ _ _ Q4.out;rw [o] at y;have F:=E.setRowNew (show w.heap.size<=gR by omega) f;rw [o] at F;have aj:=ah m;have ag:=ah o;have af:=ah r;have ak:=ah y;have ai:=ah F;have ad:=ah k;clear hq R2 W C B D j m r k K E Q o y F M;go_wp2_with (first | (refine bM TH an al aj ?_) | (refine bL af underlying71 u ?_) | (refine bS Q4 u ac ab ag ?_))
 refine bE ak underlying71 u ⟨a,b,Y,Z,ha,hb,?_,ai.out⟩;rw [ad.out]
def voteV (T:ByteArray) (r s:Int):Array Value:=#[.int .i64 3,.string T,.int .i64 r,.int .i64 s]
theorem pfI (T r s):(prog.info? 41).map (·.size)=some (voteV T r s).size:=by
 show _=some 4;kernel_rfl
theorem pkD (T r s):(voteV T r s).all (·.oneCell')=true:=by simp [voteV,Value.oneCell']
def ptG (c:UInt8) (r s:Int) (w:World) (e:Ending) (w':World):Prop:=∃ T:ByteArray,Hid (bs T=tOf c)/\e=.returned (.agg (voteV T r s))/\Upd [] [] w w'
theorem phf (c r s) (hr:pab r) (Y:pab s) (w) (P:Tabs w):Calls prog 14 #[.agg (evV c r s).toArray] w (ptG c r s w):=by
 obtain ⟨o,h⟩:=az ((evV c r s).toArray);have X:=ah h;obtain ⟨g,hg⟩:=ae (w.heap.size);obtain ⟨x,D⟩:=ae (w.alloc (.cells o 71));have n:EvA x g c r s:=by rw [<-hg,<-D,h];exact xi _ _
 have M:=aU D;obtain ⟨gR,R⟩:=ae (x.heap.size);obtain ⟨G,E⟩:=ae (x.alloc (.cells #[.int .i64 0,.string ⟨#[]⟩,.int .i64 0,.int .i64 0] 41));have J:=aW R E;have z:=aU E;have O:=ah (M.trans z);have N:=n.upd z;have A:Hid (∀ W,EvA W g c r s->W.cell? ⟨g,2,none⟩=some (.int .i64 3)/\(Instr.loadAt 71 (.pointer (some ⟨g,0,none⟩))).run prog W=.ok (.agg o) W/\(Instr.loadAt 39 (.pointer (some ⟨g,38,none⟩))).run prog W=.ok (.agg #[r,s]) W):=by
  intro W e;refine ⟨e.cell 2,ph0 h e,?_⟩;refine xL W g 38 39 [.int .i64 r,.int .i64 s] _ (fun j v d=>?_) underlying39 rfl (peS r s)
  match j,d with
  | 0,d=>simp at d;subst d;exact (e.cell 38).trans (pst _ _ _)
  | 1,d=>simp at d;subst d;exact (e.cell 39).trans (psu _ _ _)
 have H:=ah J;have u:=ah N;have Q:g≠gR:=by have:=paf n;omega
 have Z:Hid (w.heap.size<=gR):=by have:=paf n;show _<=_;omega
 have t:Uq G G.drew:=uR.drew;rw [<-h];clear h n M J z N;go_in;go_upto_region 1 with (fail)
 refine bG (S:=fun k=>k.cell? ⟨g,2,none⟩=some (.int .i64 3)/\(Instr.loadAt 71 (.pointer (some ⟨g,0,none⟩))).run prog k=.ok (.agg o) k/\(Instr.loadAt 39 (.pointer (some ⟨g,38,none⟩))).run prog k=.ok (.agg #[r,s]) k) (A.out _ (u.out.upd t)) fun a=>?_;refine tkS [0,1] a ?_;refine tkL 2 a o (fun w p=>p.2.1) ?_;refine tkY 4 a ?_;refine tkT 5 a ?_ (y:=(pap (by rfl) _ _ rfl _ rfl (#[r,s]:Array Value) (fun w p=>p.2.2)));refine tk1 3 fun K m=>?_;go_simp;rw [X.out];refine (pjb c r s hr Y _ (P.upd (O.out.trans t))).mono ?_;rintro e U ⟨T,HT,_,rfl,hq⟩;have f:=t.trans hq;clear hq;have F:=ah (pfI T r s);go_wp2_with fail;refine tkK m (A.out _ (u.out.upd f)) fun a=>?_;clear m K;refine tkY 6 a ?_;refine tk1 7 fun K m=>?_;rw [xH (by rfl)];refine xM 41 _ _ rfl gR (voteV T r s) rfl rfl _ _ (paa H.out f) F.out rfl (pkD T r s) ?_;obtain ⟨C,q⟩:=az (U.setRow gR (voteV T r s));have z2:Fr C gR (voteV T r s) 41:=(by show _=_;rw [q];exact xz _ _ _ _ _ _ (paa H.out f));have B:=(O.out.trans f).setRowNew Z.out (voteV T r s);have e2:EvA C g c r s:=(by rw [q];exact pal (u.out.upd f) Q _);rw [<-q] at B ⊢;refine tkK m (A.out _ e2) fun a=>?_;clear m K;refine tkD ?_;go_wp2_with fail;refine xI (yX rfl _ _ gR _ (voteV T r s) _ _ rfl z2.out underlying41 rfl F.out) rfl ⟨T,HT,rfl,B⟩
end Go.Proofs.YtkhjolbbpdaplaaGreatDoor
