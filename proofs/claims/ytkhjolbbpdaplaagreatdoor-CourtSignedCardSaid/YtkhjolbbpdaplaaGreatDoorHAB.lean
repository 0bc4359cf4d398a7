/- digest.mix and what follows. -/
import Derived.Test.YtkhjolbbpdaplaaGreatDoorHAA
import Derived.Test.YtkhjolbbpdaplaaGreatDoorShelfC
namespace Go.Proofs.YtkhjolbbpdaplaaGreatDoor
set_option maxHeartbeats 2000000
open Go.RowKit Go.Proofs.Tryz
set_option maxRecDepth 100000
abbrev xf:=@And.intro
abbrev xg:=@heap_setCell_same
abbrev xp:=@frozen_of_row
abbrev xx:=@List.getD_eq_getElem?_getD
abbrev xy:=@List.take_of_length_le
abbrev xz:=@setRow_heap
abbrev xC:=@List.getElem?_append_right
abbrev xG:=@List.append_assoc
abbrev xQ:=@List.length_take
abbrev xU:=@congrArg
abbrev ya:=@List.set_append_right
abbrev yg:=@Array.all_eq_true_iff_forall_mem
abbrev yk:=@Nat.mul_comm
abbrev yl:=@List.append_nil
abbrev yu:=@List.getElem?_append_left
abbrev yv:=@Array.getElem?_eq_getElem
abbrev yA:=@List.cons_append
abbrev yC:=@Nat.sub_self
abbrev yD:=@setRow_other
abbrev yL:=@List.replicate_succ
abbrev zg:=@List.replicate_zero
abbrev zk:=@List.nil_append
abbrev zn:=@List.take_succ_eq_append_getElem
abbrev zx:=@List.length_replicate
abbrev zJ:=@List.length_drop
abbrev zX:=@Nat.two_pow_add_eq_or_of_lt
abbrev ud:=@Nat.add_assoc
abbrev uK:=@List.map_append
abbrev uN:=@BitVec.toNat_or
abbrev uZ:=@and_true
abbrev vg:=@Nat.zero_mul
def wordVals (l:List W32):List Value:=l.map peK
def partW (b:List UInt8):Nat->List W32
 | 0=>List.replicate 64 0
 | k+1=>(partW b k).set (k / 4) ((partW b k).getD (k / 4) 0 <<< 8 ||| BitVec.ofNat 32 (b.getD k 0).toNat)
theorem pfc (b):∀ k,(partW b k).length=64
 | 0=>by simp [partW]
 | k+1=>by simp [partW,pfc b k]
theorem pao (wr:World) (g k l t) (h:wr.heap[g]? =some (.cells (wordVals l).toArray t (0,0))) (a:k<l.length) :
 wr.cell? ⟨g,k,none⟩=some (.int .u32 ((l.getD k 0).toNat:Int)):=by
 rw [xa wr g k _ _ _ h];simp [wordVals,peK,List.getD,a]
theorem phN (l k x):(wordVals l).toArray.setIfInBounds k (peK x)=(wordVals (l.set k x)).toArray:=by
 simp [wordVals,List.map_set]
def stV (v:St):Value:=.agg (wordVals v.l).toArray
structure MixW (w wr:World) (v:St) (l:List W32):Prop where
 hs:wr.heap[w.heap.size]? =some (.cells (wordVals v.l).toArray 275 (0,0))
 hr:wr.heap[w.heap.size+1]? =some (.cells (wordVals (List.replicate 8 0)).toArray 275 (0,0))
 hw:wr.heap[w.heap.size+1+1]? =some (.cells (wordVals l).toArray 302 (0,0))
 up:Upd [] [] w wr
theorem MixW.start (w v):MixW w (((w.alloc (.cells (wordVals v.l).toArray 275)).alloc (.cells (wordVals (List.replicate 8 0)).toArray 275)).alloc (.cells (wordVals (List.replicate 64 0)).toArray 302)) v (List.replicate 64 0):=by
 refine ⟨?_,?_,?_,((uR.alloc _).alloc _).alloc _⟩
 · rw [xY _ _ _ (by simp;omega),xY _ _ _ (by simp)];exact xi _ _
 · rw [xY _ _ _ (by simp)];simpa using xi (w.alloc (.cells (wordVals v.l).toArray 275)) _
 · simpa using xi ((w.alloc (.cells (wordVals v.l).toArray 275)).alloc (.cells (wordVals (List.replicate 8 0)).toArray 275)) _
theorem MixW.drew {w wr v l} (h:MixW w wr v l):MixW w wr.drew v l:=⟨h.hs,h.hr,h.hw,h.up.drew⟩
theorem MixW.drewN {w wr v l} (h:MixW w wr v l) (n):MixW w (wr.drewN n) v l:=⟨h.hs,h.hr,h.hw,h.up.drewN n⟩
theorem MixW.set {w wr v l} (h:MixW w wr v l) (k x):MixW w (wr.setCell ⟨w.heap.size+1+1,k,none⟩ (.int .u32 (x.toNat:Int))) v (l.set k x):=by
 refine ⟨?_,?_,?_,h.up.setNew (by simp;omega) _⟩
 · rw [xE _ _ _ _ (by simp;omega)];exact h.hs
 · rw [xE _ _ _ _ (by simp)];exact h.hr
 · have a:=xg wr (w.heap.size+1+1) k _ _ (peK x) h.hw;rw [phN] at a;exact a
theorem MixW.word {w wr v l} (h:MixW w wr v l) {k} (a:k<l.length):wr.cell? ⟨w.heap.size+1+1,k,none⟩=some (.int .u32 ((l.getD k 0).toNat:Int)):=pao _ _ _ _ _ h.hw a
theorem MixW.st {w wr v l} (h:MixW w wr v l) {k} (a:k<8):wr.cell? ⟨w.heap.size,k,none⟩=some (.int .u32 ((v.l.getD k 0).toNat:Int)):=pao _ _ _ _ _ h.hs a
theorem MixW.fz {w wr v l} (h:MixW w wr v l) (k):wr.frozen? ⟨w.heap.size+1+1,k,none⟩=false:=xp _ _ _ _ _ h.hw
theorem puc (x:W32) (b:UInt8):bits .or .u32 ((x.toNat:Int) * 256 % 4294967296) ((b.toNat:Int) % 4294967296)=((x <<< 8 ||| BitVec.ofNat 32 b.toNat).toNat:Int):=by
 have e:=pmK x 8;rw [show (2:Int) ^ 8=256 from rfl] at e;have c:(b.toNat:Int)=((BitVec.ofNat 32 b.toNat).toNat:Int):=by
  have:=b.toNat_lt;rw [zV,xV (by omega)]
 have a:(b.toNat:Int) % 4294967296=(b.toNat:Int):=by have:=b.toNat_lt;omega
 rw [e,a,c,or_w]
theorem pnY (s k) (h:k<s.size):(bs s).getD k 0=s[k]:=by
 have a:k<(bs s).length:=h;rw [xx,xd a];rfl
theorem or8 (x) (b:UInt8) (c:x<2 ^ 24):(BitVec.ofNat 32 x) <<< 8 ||| BitVec.ofNat 32 b.toNat=BitVec.ofNat 32 (x * 256+b.toNat):=by
 have e:=b.toNat_lt;apply vn;have d:x * 2 ^ 8<2 ^ 32:=by
  have:x * 2 ^ 8<2 ^ 24 * 2 ^ 8:=Nat.mul_lt_mul_of_pos_right c (by decide);exact this
 rw [uN,BitVec.toNat_shiftLeft,zV,zV,zV,Nat.shiftLeft_eq,xV (a:=x) (by omega),xV d,xV (a:=b.toNat) (by omega),xV (by omega),yk x,<-zX (by omega:b.toNat<2 ^ 8)]
theorem ptl (a b c d):((((0:W32) <<< 8 ||| BitVec.ofNat 32 a.toNat) <<< 8 ||| BitVec.ofNat 32 b.toNat) <<< 8 ||| BitVec.ofNat 32 c.toNat) <<< 8 ||| BitVec.ofNat 32 d.toNat=pqC a b c d:=by
 have j:=a.toNat_lt;have g:=b.toNat_lt;have h:=c.toNat_lt;have e:=or8 0 a (by decide);rw [vg,yB] at e;have f:(0:W32) <<< 8 ||| BitVec.ofNat 32 a.toNat=BitVec.ofNat 32 a.toNat:=e;rw [f,or8 _ _ (by omega),or8 _ _ (by omega),or8 _ _ (by omega)];rfl
theorem pfV (b):∀ k,k<=16->partW b (4 * k)=words b k ++ List.replicate (64 - k) 0
 | 0,_=>rfl
 | k+1,h=>by
  have e:=pfV b k (by omega)
  have d:List.replicate (64 - k) (0:W32)=0 :: List.replicate (64 - (k+1)) 0:=by rw [show 64 - k=(64 - (k+1))+1 by omega,yL]
  have a:∀ (x y:W32),(words b k ++ x :: List.replicate (64 - (k+1)) 0).set k y=words b k ++ y :: List.replicate (64 - (k+1)) 0:=by
   intro x y;rw [ya _ _ (by rw [pba];exact xj _),pba,yC,xX]
  have c:∀ (x:W32),(words b k ++ x :: List.replicate (64 - (k+1)) 0).getD k 0=x:=by
   intro x;rw [xx,xC (by rw [pba];exact xj _),pba,yC];rfl
  rw [show 4 * (k+1)=4 * k+1+1+1+1 by omega];simp only [partW];rw [e,d,show (4 * k) / 4=k by omega,show (4 * k+1) / 4=k by omega,show (4 * k+1+1) / 4=k by omega,show (4 * k+1+1+1) / 4=k by omega];simp only [a,c];rw [ptl (b.getD (4 * k) 0) (b.getD (4 * k+1) 0) (b.getD (4 * k+2) 0) (b.getD (4 * k+3) 0)];simp only [words,List.range_succ,uK,zr,zU,xG,yA,zk];rfl
def rowW (b:List UInt8) (k:Nat):List W32:=pbg b k ++ List.replicate (48 - k) 0
theorem pd7 (b k) (h:k<=48):(rowW b k).length=64:=by simp [rowW,paR];omega
theorem plv (b k i) (h:i<16+k):(rowW b k).getD i 0=(pbg b k).getD i 0:=by
 simp only [rowW,xx];rw [yu (by rw [paR];exact h)]
theorem plw (b k) (h:k<48):(rowW b k).set (16+k) (pmJ (pbg b k))=rowW b (k+1):=by
 have e:List.replicate (48 - k) (0:W32)=0 :: List.replicate (48 - (k+1)) 0:=by
  rw [show 48 - k=(48 - (k+1))+1 by omega,yL]
 simp only [rowW,pbg];rw [ya _ _ (by rw [paR];exact xj _),paR,yC,e,xX,xG];rfl
theorem pnZ (b):partW b 64=rowW b 0:=pfV b 16 (by omega)
theorem psa (v s w) (hs:s.size=64) (aw:Tabs w) :
 Calls prog 303 #[stV v,.string s] w (Mk (stV (mixS v (bs s))) w):=by
 obtain ⟨V,hv⟩:=az (v);obtain ⟨a,b,c,d,e,f,g,h⟩:=v;show Calls prog 303 #[.agg #[.int .u32 (a.toNat:Int),.int .u32 (b.toNat:Int),.int .u32 (c.toNat:Int),.int .u32 (d.toNat:Int),.int .u32 (e.toNat:Int),.int .u32 (f.toNat:Int),.int .u32 (g.toNat:Int),.int .u32 (h.toNat:Int)],.string s] w _;obtain ⟨V',hV⟩:=az (stV (mixS ⟨a,b,c,d,e,f,g,h⟩ (bs s)));rw [<-hV];have HV:=ah hV;clear hV;have o:=ah hv;clear hv;have b3:(s.size:Int)=64:=by omega
 have b4:64<=s.size:=by omega
 have HS:=ah hs;clear hs;have h0:=MixW.start w V;rw [o.out] at h0;go_in;go_wp2;go_loopw [23] (fun i wr=>∃ k:Nat,i=.int .i64 (k:Int)/\k<=64/\MixW w wr V (partW (bs s) k)) (fun i _=>64 - (intOf i).toNat)
 case atStart=>exact ⟨0,rfl,xu _,by rw [o.out];exact h0⟩
 case round =>
  clear h0;obtain ⟨k,rfl,R,m⟩:=hrel;by_cases u:k<64
  · obtain ⟨j,hj⟩:=az (k / 4);have b6:(j:Int)<64:=by omega
    have Y:(k:Int)<s.size:=by omega
    have q1:=m.word (k:=j) (by rw [pfc];omega);have J:=m.fz j;obtain ⟨x,hx⟩:=az ((partW (bs s) k).getD j 0);rw [<-hx] at q1;have HX:=ah hx;clear hx;have aL:k<s.size:=by omega
    have bI:IntKind.i64.wrap ((k:Int) / 4)=(j:Int):=by rw [pam (by omega) (by omega)];omega
    have HJ:=ah hj;clear hj;go_wp2_with fail;go_still_tail 13,(by kernel_rfl)
    go_wp2_with fail;refine ⟨⟨k+1,by go_num,by omega,?_⟩,by simp [intOf];omega⟩;have hr:=(m.set j (x <<< 8 ||| BitVec.ofNat 32 s[k].toNat)).drew;rw [puc];have e:partW (bs s) (k+1)=(partW (bs s) k).set j (x <<< 8 ||| BitVec.ofNat 32 s[k].toNat):=by
     rw [partW,pnY s k aL,HX.out,HJ.out]
    rw [e];exact hr
  · have q:(k:Int)=64:=by omega
    have r:k=64:=by omega
    rw [r,pnZ] at m;rw [q];clear u R q r;go_wp2;go_loopw [7] (fun i wr=>∃ k:Nat,i=.int .i64 (k:Int)/\16<=k/\k<=64/\MixW w wr V (rowW (bs s) (k - 16))) (fun i _=>64 - (intOf i).toNat)
    case atStart=>exact ⟨16,rfl,by omega,by omega,m⟩
    case round =>
     clear m;obtain ⟨k,rfl,aH,R,m⟩:=hrel;by_cases u:k<64
     · obtain ⟨n,Y⟩:∃ n,k=n+16:=⟨k - 16,by omega⟩
       obtain ⟨ad,aj⟩:=az (n+1);obtain ⟨U,ap⟩:=az (n+9);obtain ⟨k2,an⟩:=az (n+14);rw [Y,Nat.add_sub_cancel] at m;have ba:=pd7 (bs s) n (by omega);have q0:=m.word (k:=k) (by omega);have ai:=m.word (k:=n) (by omega);have ak:=m.word (k:=ad) (by omega);have q7:=m.word (k:=U) (by omega);have J:=m.word (k:=k2) (by omega);have qf:=m.fz k;rw [plv _ _ _ (by omega)] at ai ak q7 J;obtain ⟨Q,hx16⟩:=az ((pbg (bs s) n).getD n 0);obtain ⟨y,Z⟩:=az ((pbg (bs s) n).getD ad 0);obtain ⟨x7,ag⟩:=az ((pbg (bs s) n).getD U 0);obtain ⟨x2,ab⟩:=az ((pbg (bs s) n).getD k2 0);rw [<-hx16] at ai;rw [<-Z] at ak;rw [<-ag] at q7;rw [<-ab] at J;have bp:IntKind.i64.wrap ((k:Int) - 16)=(n:Int):=by rw [pam (by omega) (by omega)];omega
       have bO:IntKind.i64.wrap ((k:Int) - 15)=(ad:Int):=by rw [pam (by omega) (by omega)];omega
       have i7:IntKind.i64.wrap ((k:Int) - 7)=(U:Int):=by rw [pam (by omega) (by omega)];omega
       have i2:IntKind.i64.wrap ((k:Int) - 2)=(k2:Int):=by rw [pam (by omega) (by omega)];omega
       have bP:(n:Int)<64:=by omega
       have bm:(ad:Int)<64:=by omega
       have b7:(U:Int)<64:=by omega
       have b2:(k2:Int)<64:=by omega
       have b0:(k:Int)<64:=by omega
       have HX:=ah (xf hx16 (xf Z (xf ag ab)));have HK:=ah (xf Y (xf aj (xf ap an)));have ar:pmJ (pbg (bs s) n)=Q+sig0 y+x7+sig1 x2:=by
        rw [pmJ,paR,hx16,Z,ag,ab,aj,ap,an,show 16+n - 16=n by omega,show 16+n - 15=n+1 by omega,show 16+n - 7=n+9 by omega,show 16+n - 2=n+14 by omega]
       have al:=plw (bs s) n (by omega);rw [show 16+n=k by omega,ar] at al;have HR:=ah al;clear hx16 Z ag ab Y aj ap an ba ar al;have e0:=pti y;have e1:=ptj x2;have a1:=addW Q (sig0 y);have a2:=addW (Q+sig0 y) x7;have a3:=addW (Q+sig0 y+x7) (sig1 x2);generalize bf:sig0 y=z0 at *;generalize a4:sig1 x2=z1 at *;generalize bg:Q+z0=y1 at *;generalize aK:y1+x7=y2 at *;generalize aJ:y2+z1=y3 at *;clear bf a4 bg aK aJ;go_wp2_with fail;go_quiet (fail);go_wp2_with (go_at_call 321;((with_reducible refine (rotate_i _ _ _ (by omega)).mono ?_);rintro e w' ⟨rfl,rfl⟩))
       have aa:=m.drewN nq;have r0:(wr.drewN nq).cell? ⟨w.heap.size+1+1,k,none⟩=_:=q0;have bk:(wr.drewN nq).cell? ⟨w.heap.size+1+1,n,none⟩=_:=ai;have r7:(wr.drewN nq).cell? ⟨w.heap.size+1+1,U,none⟩=_:=q7;have rf:(wr.drewN nq).frozen? ⟨w.heap.size+1+1,k,none⟩=_:=qf;clear q0 ai ak q7 J qf m e0 e1;generalize wr.drewN nq=wr2 at *;go_still_tail 15,(by kernel_rfl)
       go_wp2_with fail;refine ⟨⟨k+1,by go_num,by omega,by omega,?_⟩,by simp [intOf];omega⟩;have hr:=(aa.set k y3).drew;rw [HR.out] at hr;rw [show k+1 - 16=n+1 by have:=HK.out.1;omega];exact hr
     · have q:(k:Int)=64:=by omega
       have r:k=64:=by omega
       rw [r] at m;rw [q];clear u R aH q r;have m:MixW w wr V (rowW (bs s) 48):=m;have X:=m.st (k:=0) (by omega);have S:=m.st (k:=1) (by omega);have T:=m.st (k:=2) (by omega);have W:=m.st (k:=3) (by omega);have z:=m.st (k:=4) (by omega);have O:=m.st (k:=5) (by omega);have M:=m.st (k:=6) (by omega);have N:=m.st (k:=7) (by omega);rw [o.out] at X S T W z O M N
       replace X:wr.cell? ⟨w.heap.size,0,none⟩=some (.int .u32 (a.toNat:Int)):=X
       replace S:wr.cell? ⟨w.heap.size,1,none⟩=some (.int .u32 (b.toNat:Int)):=S
       replace T:wr.cell? ⟨w.heap.size,2,none⟩=some (.int .u32 (c.toNat:Int)):=T
       replace W:wr.cell? ⟨w.heap.size,3,none⟩=some (.int .u32 (d.toNat:Int)):=W
       replace z:wr.cell? ⟨w.heap.size,4,none⟩=some (.int .u32 (e.toNat:Int)):=z
       replace O:wr.cell? ⟨w.heap.size,5,none⟩=some (.int .u32 (f.toNat:Int)):=O
       replace M:wr.cell? ⟨w.heap.size,6,none⟩=some (.int .u32 (g.toNat:Int)):=M
       replace N:wr.cell? ⟨w.heap.size,7,none⟩=some (.int .u32 (h.toNat:Int)):=N
       go_wp2_with fail;go_quiet (fail);have aa:=m.drewN nq;have r4:(wr.drewN nq).cell? ⟨w.heap.size,4,none⟩=some (.int .u32 (e.toNat:Int)):=z;have r5:(wr.drewN nq).cell? ⟨w.heap.size,5,none⟩=some (.int .u32 (f.toNat:Int)):=O;have r6:(wr.drewN nq).cell? ⟨w.heap.size,6,none⟩=some (.int .u32 (g.toNat:Int)):=M;have r7:(wr.drewN nq).cell? ⟨w.heap.size,7,none⟩=some (.int .u32 (h.toNat:Int)):=N;clear m X S T W z O M N;generalize wr.drewN nq=wr2 at *;go_wp2_with fail;go_quiet (fail);go_wp2_with fail;have ac:=aa.drewN nq;clear aa r4 r5 r6 r7;generalize wr2.drewN nq=wr3 at *;have aq:rowW (bs s) 48=pbg (bs s) 48:=by simp [rowW]
       rw [aq] at ac;clear aq;obtain ⟨ws,af⟩:=az (pbg (bs s) 48);have av:ws.length=64:=by rw [af,paR]
       rw [<-af] at ac;have bb:=ah af;have aN:=ah av;clear af av;go_loopw [12,13,14,15,16,17,18,19,99] (fun v1 v2 v3 v4 v5 v6 v7 v8 i wr=>∃ (k:Nat) (A B C D E F G H:W32),i=.int .i64 (k:Int)/\k<=64/\MixW w wr V ws/\Hid (pfT V ws k=⟨A,B,C,D,E,F,G,H⟩)/\v1=.int .u32 (A.toNat:Int)/\v2=.int .u32 (B.toNat:Int)/\v3=.int .u32 (C.toNat:Int)/\v4=.int .u32 (D.toNat:Int)/\v5=.int .u32 (E.toNat:Int)/\v6=.int .u32 (F.toNat:Int)/\v7=.int .u32 (G.toNat:Int)/\v8=.int .u32 (H.toNat:Int)) (fun _ _ _ _ _ _ _ _ i _=>64 - (intOf i).toNat)
       case atStart=>exact ⟨0,a,b,c,d,e,f,g,h,rfl,by omega,ac,o.out,rfl,rfl,rfl,rfl,rfl,rfl,rfl,rfl⟩
       case round =>
        clear ac;obtain ⟨k,A,B,C,D,E,F,G,H,rfl,R,m,am,rfl,rfl,rfl,rfl,rfl,rfl,rfl,rfl⟩:=hrel;by_cases u:k<64
        · have q1:=m.word (k:=k) (by rw [aN.out];exact u);have J:=(aw.upd m.up).kc k u;obtain ⟨K,hK⟩:=az (kW k);obtain ⟨Wd,ao⟩:=az (ws.getD k 0);rw [<-ao] at q1;rw [<-hK] at J;have au:=ah (xf hK ao);clear hK ao;have q:(k:Int)<64:=by omega
          obtain ⟨l1,br,bc⟩:∃ l:W32,bits .xor .u32 ((rotR E 6).toNat:Int) ((rotR E 11).toNat:Int)=(l.toNat:Int)/\Hid (l=(rotR E 6) ^^^ (rotR E 11)):=⟨_,pcm _ _,rfl⟩
          obtain ⟨l2,bD,aT⟩:∃ l:W32,bits .xor .u32 (l1.toNat:Int) ((rotR E 25).toNat:Int)=(l.toNat:Int)/\Hid (l=l1 ^^^ (rotR E 25)):=⟨_,pcm _ _,rfl⟩
          obtain ⟨l3,bJ,aY⟩:∃ l:W32,IntKind.u32.wrap ((H.toNat:Int)+(l2.toNat:Int))=(l.toNat:Int)/\Hid (l=H+l2):=⟨_,addW _ _,rfl⟩
          obtain ⟨l4,bz,aO⟩:∃ l:W32,bits .and .u32 (E.toNat:Int) (F.toNat:Int)=(l.toNat:Int)/\Hid (l=E &&& F):=⟨_,pgP _ _,rfl⟩
          obtain ⟨l5,bq,a6⟩:∃ l:W32,bits .xor .u32 (if IntKind.u32.signed=true then -1 else IntKind.u32.max) (E.toNat:Int)=(l.toNat:Int)/\Hid (l = ~~~E):=⟨_,ptk _,rfl⟩
          obtain ⟨l6,bT,aZ⟩:∃ l:W32,bits .and .u32 (l5.toNat:Int) (G.toNat:Int)=(l.toNat:Int)/\Hid (l=l5 &&& G):=⟨_,pgP _ _,rfl⟩
          obtain ⟨l7,bw,bh⟩:∃ l:W32,bits .xor .u32 (l4.toNat:Int) (l6.toNat:Int)=(l.toNat:Int)/\Hid (l=l4 ^^^ l6):=⟨_,pcm _ _,rfl⟩
          obtain ⟨l8,bo,a9⟩:∃ l:W32,IntKind.u32.wrap ((l3.toNat:Int)+(l7.toNat:Int))=(l.toNat:Int)/\Hid (l=l3+l7):=⟨_,addW _ _,rfl⟩
          obtain ⟨l9,bj,aG⟩:∃ l:W32,IntKind.u32.wrap ((l8.toNat:Int)+(K.toNat:Int))=(l.toNat:Int)/\Hid (l=l8+K):=⟨_,addW _ _,rfl⟩
          obtain ⟨P,bx,ax⟩:∃ l:W32,IntKind.u32.wrap ((l9.toNat:Int)+(Wd.toNat:Int))=(l.toNat:Int)/\Hid (l=l9+Wd):=⟨_,addW _ _,rfl⟩
          obtain ⟨m1,b9,a7⟩:∃ l:W32,bits .xor .u32 ((rotR A 2).toNat:Int) ((rotR A 13).toNat:Int)=(l.toNat:Int)/\Hid (l=(rotR A 2) ^^^ (rotR A 13)):=⟨_,pcm _ _,rfl⟩
          obtain ⟨m2,bt,aF⟩:∃ l:W32,bits .xor .u32 (m1.toNat:Int) ((rotR A 22).toNat:Int)=(l.toNat:Int)/\Hid (l=m1 ^^^ (rotR A 22)):=⟨_,pcm _ _,rfl⟩
          obtain ⟨m3,cb,a0⟩:∃ l:W32,bits .and .u32 (A.toNat:Int) (B.toNat:Int)=(l.toNat:Int)/\Hid (l=A &&& B):=⟨_,pgP _ _,rfl⟩
          obtain ⟨m4,bv,aS⟩:∃ l:W32,bits .and .u32 (A.toNat:Int) (C.toNat:Int)=(l.toNat:Int)/\Hid (l=A &&& C):=⟨_,pgP _ _,rfl⟩
          obtain ⟨m5,b1,aV⟩:∃ l:W32,bits .xor .u32 (m3.toNat:Int) (m4.toNat:Int)=(l.toNat:Int)/\Hid (l=m3 ^^^ m4):=⟨_,pcm _ _,rfl⟩
          obtain ⟨m6,cc,aA⟩:∃ l:W32,bits .and .u32 (B.toNat:Int) (C.toNat:Int)=(l.toNat:Int)/\Hid (l=B &&& C):=⟨_,pgP _ _,rfl⟩
          obtain ⟨m7,bn,a8⟩:∃ l:W32,bits .xor .u32 (m5.toNat:Int) (m6.toNat:Int)=(l.toNat:Int)/\Hid (l=m5 ^^^ m6):=⟨_,pcm _ _,rfl⟩
          obtain ⟨m8,bW,ay⟩:∃ l:W32,((m2.toNat:Int)+(m7.toNat:Int)) % 4294967296=(l.toNat:Int)/\Hid (l=m2+m7):=⟨_,pd6 _ _,rfl⟩
          obtain ⟨n1,aQ,bi⟩:∃ l:W32,((D.toNat:Int)+(P.toNat:Int)) % 4294967296=(l.toNat:Int)/\Hid (l=D+P):=⟨_,pd6 _ _,rfl⟩
          obtain ⟨n2,aP,a5⟩:∃ l:W32,((P.toNat:Int)+(m8.toNat:Int)) % 4294967296=(l.toNat:Int)/\Hid (l=P+m8):=⟨_,pd6 _ _,rfl⟩
          go_wp2_with fail;go_quiet ((go_at_call 321;exact pfS (rotate_i _ _ _ (by omega))));go_wp2_with (go_at_call 321;((with_reducible refine (rotate_i _ _ _ (by omega)).mono ?_);rintro e w' ⟨rfl,rfl⟩))
          refine ⟨⟨k+1,n2,A,B,C,n1,E,F,G,by go_num,by omega,m.drewN nq,?_,(by first | rfl | rw [aP]),rfl,rfl,rfl,(by first | rfl | rw [aQ]),rfl,rfl,rfl⟩,by simp [intOf];omega⟩;show _=_;rw [pfT,am.out,<-au.out.1,<-au.out.2];simp only [pr9,St.mk.injEq,uZ,true_and];have g1:P=H+big1 E+chW E F G+K+Wd:=by rw [ax.out,aG.out,a9.out,bh.out,aZ.out,a6.out,aO.out,aY.out,aT.out,bc.out];rfl
          have g2:m8=big0 A+majW A B C:=by rw [ay.out,a8.out,aA.out,aV.out,aS.out,a0.out,aF.out,a7.out];rfl
          exact ⟨by rw [a5.out,g1,g2],by rw [bi.out,g1]⟩
        · have q:(k:Int)=64:=by omega
          have r:k=64:=by omega
          rw [r] at am;rw [q];clear u R q r;have X:wr.cell? ⟨w.heap.size,0,none⟩=some (.int .u32 (a.toNat:Int)):=by have:=m.st (k:=0) (by omega);rw [o.out] at this;exact this
          have S:wr.cell? ⟨w.heap.size,1,none⟩=some (.int .u32 (b.toNat:Int)):=by have:=m.st (k:=1) (by omega);rw [o.out] at this;exact this
          have T:wr.cell? ⟨w.heap.size,2,none⟩=some (.int .u32 (c.toNat:Int)):=by have:=m.st (k:=2) (by omega);rw [o.out] at this;exact this
          have W:wr.cell? ⟨w.heap.size,3,none⟩=some (.int .u32 (d.toNat:Int)):=by have:=m.st (k:=3) (by omega);rw [o.out] at this;exact this
          have z:wr.cell? ⟨w.heap.size,4,none⟩=some (.int .u32 (e.toNat:Int)):=by have:=m.st (k:=4) (by omega);rw [o.out] at this;exact this
          have O:wr.cell? ⟨w.heap.size,5,none⟩=some (.int .u32 (f.toNat:Int)):=by have:=m.st (k:=5) (by omega);rw [o.out] at this;exact this
          have M:wr.cell? ⟨w.heap.size,6,none⟩=some (.int .u32 (g.toNat:Int)):=by have:=m.st (k:=6) (by omega);rw [o.out] at this;exact this
          have N:wr.cell? ⟨w.heap.size,7,none⟩=some (.int .u32 (h.toNat:Int)):=by have:=m.st (k:=7) (by omega);rw [o.out] at this;exact this
          obtain ⟨o0,bZ,aC⟩:∃ l:W32,((a.toNat:Int)+(A.toNat:Int)) % 4294967296=(l.toNat:Int)/\Hid (l=a+A):=⟨_,pd6 _ _,rfl⟩
          obtain ⟨o1,ca,bd⟩:∃ l:W32,((b.toNat:Int)+(B.toNat:Int)) % 4294967296=(l.toNat:Int)/\Hid (l=b+B):=⟨_,pd6 _ _,rfl⟩
          obtain ⟨o2,bu,aM⟩:∃ l:W32,((c.toNat:Int)+(C.toNat:Int)) % 4294967296=(l.toNat:Int)/\Hid (l=c+C):=⟨_,pd6 _ _,rfl⟩
          obtain ⟨o3,bU,aB⟩:∃ l:W32,((d.toNat:Int)+(D.toNat:Int)) % 4294967296=(l.toNat:Int)/\Hid (l=d+D):=⟨_,pd6 _ _,rfl⟩
          obtain ⟨o4,b5,aR⟩:∃ l:W32,((e.toNat:Int)+(E.toNat:Int)) % 4294967296=(l.toNat:Int)/\Hid (l=e+E):=⟨_,pd6 _ _,rfl⟩
          obtain ⟨o5,bK,aE⟩:∃ l:W32,((f.toNat:Int)+(F.toNat:Int)) % 4294967296=(l.toNat:Int)/\Hid (l=f+F):=⟨_,pd6 _ _,rfl⟩
          obtain ⟨o6,bC,aI⟩:∃ l:W32,((g.toNat:Int)+(G.toNat:Int)) % 4294967296=(l.toNat:Int)/\Hid (l=g+G):=⟨_,pd6 _ _,rfl⟩
          obtain ⟨o7,bl,aD⟩:∃ l:W32,((h.toNat:Int)+(H.toNat:Int)) % 4294967296=(l.toNat:Int)/\Hid (l=h+H):=⟨_,pd6 _ _,rfl⟩
          have z0:wr.cell? ⟨w.heap.size+1,0,none⟩=some (.int .u32 0):=pao _ _ 0 _ _ m.hr (by simp);have f0:wr.frozen? ⟨w.heap.size+1,0,none⟩=false:=xp _ _ _ _ _ m.hr;have z1:wr.cell? ⟨w.heap.size+1,1,none⟩=some (.int .u32 0):=pao _ _ 1 _ _ m.hr (by simp);have f1:wr.frozen? ⟨w.heap.size+1,1,none⟩=false:=xp _ _ _ _ _ m.hr;have z2:wr.cell? ⟨w.heap.size+1,2,none⟩=some (.int .u32 0):=pao _ _ 2 _ _ m.hr (by simp);have f2:wr.frozen? ⟨w.heap.size+1,2,none⟩=false:=xp _ _ _ _ _ m.hr;have z3:wr.cell? ⟨w.heap.size+1,3,none⟩=some (.int .u32 0):=pao _ _ 3 _ _ m.hr (by simp);have f3:wr.frozen? ⟨w.heap.size+1,3,none⟩=false:=xp _ _ _ _ _ m.hr;have z4:wr.cell? ⟨w.heap.size+1,4,none⟩=some (.int .u32 0):=pao _ _ 4 _ _ m.hr (by simp);have f4:wr.frozen? ⟨w.heap.size+1,4,none⟩=false:=xp _ _ _ _ _ m.hr;have z5:wr.cell? ⟨w.heap.size+1,5,none⟩=some (.int .u32 0):=pao _ _ 5 _ _ m.hr (by simp);have f5:wr.frozen? ⟨w.heap.size+1,5,none⟩=false:=xp _ _ _ _ _ m.hr;have z6:wr.cell? ⟨w.heap.size+1,6,none⟩=some (.int .u32 0):=pao _ _ 6 _ _ m.hr (by simp);have f6:wr.frozen? ⟨w.heap.size+1,6,none⟩=false:=xp _ _ _ _ _ m.hr;have z7:wr.cell? ⟨w.heap.size+1,7,none⟩=some (.int .u32 0):=pao _ _ 7 _ _ m.hr (by simp);have f7:wr.frozen? ⟨w.heap.size+1,7,none⟩=false:=xp _ _ _ _ _ m.hr;go_wp2_with fail;refine xI (v:=.agg #[.int .u32 (o0.toNat:Int),.int .u32 (o1.toNat:Int),.int .u32 (o2.toNat:Int),.int .u32 (o3.toNat:Int),.int .u32 (o4.toNat:Int),.int .u32 (o5.toNat:Int),.int .u32 (o6.toNat:Int),.int .u32 (o7.toNat:Int)]) (by simp [results,Tryz.results303,go_sem,z0,z1,z2,z3,z4,z5,z6,z7]) rfl ⟨?_,?_⟩
          · rw [HV.out,mixS,<-bb.out,<-o.out,am.out,o.out,addS,aC.out,bd.out,aM.out,aB.out,aR.out,aE.out,aI.out,aD.out];rfl
          · have t:w.heap.size<=w.heap.size+1:=by omega
            exact (((((((m.up.setNew (p:=⟨_,_,none⟩) t _).setNew (p:=⟨_,_,none⟩) t _).setNew (p:=⟨_,_,none⟩) t _).setNew (p:=⟨_,_,none⟩) t _).setNew (p:=⟨_,_,none⟩) t _).setNew (p:=⟨_,_,none⟩) t _).setNew (p:=⟨_,_,none⟩) t _).setNew (p:=⟨_,_,none⟩) t _
theorem piF (n k) (h:k<8):(byteVals ((len8 n).take k ++ List.replicate (8 - k) 0)).toArray.setIfInBounds k (pbj (UInt8.ofNat (n / 2 ^ (8 * (7 - k)))))=(byteVals ((len8 n).take (k+1) ++ List.replicate (8 - (k+1)) 0)).toArray:=by
 have:k=0\/k=1\/k=2\/k=3\/k=4\/k=5\/k=6\/k=7:=by omega
 rcases this with rfl | rfl | rfl | rfl | rfl | rfl | rfl | rfl <;> rfl
theorem pfy (n k:Nat):Value.int .u8 ((n:Int) / 2 ^ (8 * (7 - k)) % 256)=pbj (UInt8.ofNat (n / 2 ^ (8 * (7 - k)))):=by
 show _=Value.int .u8 ((((UInt8.ofNat (n / 2 ^ (8 * (7 - k)))).toNat:Nat)):Int);have:(UInt8.ofNat (n / 2 ^ (8 * (7 - k)))).toNat=n / 2 ^ (8 * (7 - k)) % 256:=by simp
 rw [this];simp
theorem pmN (n:Nat) (w) (_hn:n<=18446744073709551615):Calls prog 304 #[.int .u64 (n:Int)] w
 (fun e w'=>∃ r,Hid (bs r=len8 n)/\e=.returned (.string r)/\Uq w w'):=by
 have h:(w.alloc (.cells (byteVals (List.replicate 8 0)).toArray 217)).heap[w.heap.size]? =some (.cells (byteVals (List.replicate 8 0)).toArray 217 (0,0)):=xi _ _;have j:Uq w (w.alloc (.cells (byteVals (List.replicate 8 0)).toArray 217)):=uR.alloc _;have g:=ah h;clear h;go_in;go_wp2;go_loopw [5] (fun i wr=>∃ k:Nat,i=.int .i64 (k:Int)/\k<=8/\Hid (wr.heap[w.heap.size]? =some (.cells (byteVals ((len8 n).take k ++ List.replicate (8 - k) 0)).toArray 217 (0,0)))/\Uq w wr) (fun i _=>8 - (intOf i).toNat)
 case atStart=>exact ⟨0,rfl,xu _,g.out,j⟩
 case round =>
  clear g j;obtain ⟨k,rfl,z,a,q⟩:=hrel;by_cases t:k<8
  · have o:∃ m,wr.cell? ⟨w.heap.size,k,none⟩=some m:=by
     rw [xa wr w.heap.size k _ _ _ a.out];exact ⟨_,yv (by simp [byteVals,len8];omega)⟩
    obtain ⟨m,o⟩:=o;have A:wr.frozen? ⟨w.heap.size,k,none⟩=false:=xp wr w.heap.size k _ _ a.out;have d:=xg wr w.heap.size k _ _ (pbj (UInt8.ofNat (n / 2 ^ (8 * (7 - k))))) a.out;rw [piF n k t] at d;have x:=ah d;have u:=ah (q.setNew (p:=⟨w.heap.size,k,none⟩) (xj _) (pbj (UInt8.ofNat (n / 2 ^ (8 * (7 - k))))));clear d;have y:56 - 8 * k=8 * (7 - k):=by omega
    go_wp2_with fail;go_roundw
    case rel=>exact ⟨k+1,by go_num,by omega,by rw [pfy];exact x.out,by rw [pfy];exact u.out⟩
    case measure=>simp [intOf];omega
  · obtain rfl:k=8:=by omega
    have c:=a.out;rw [xy (by rw [pau];omega)] at c;simp only [yC,zg,yl] at c;have f:=pbO (P:=prog) wr 95 9 5 underlying95 underlying5 underlying9 w.heap.size _ _ _ c (len8 n) (by rw [xy (by simp [byteVals])]) 0 8 8 (by rw [pau];omega);have v:=ah f;clear f c;go_wp2_with fail;rw [v.out];go_wp2;go_ret;refine ⟨⟨(len8 n).toArray⟩,rfl,?_,q⟩;rw [xy (by rw [pau];omega)];rfl
theorem paE {w w'} (h:Below w.heap.size w w'):Uq w w' :=
 ⟨h.os,h.tape,h.output,h.size,fun k a _=>h.block k a,fun _ a=>absurd a (by simp)⟩
theorem Upd.setRowNew {S S' w w'} (h:Upd S S' w w') {g} (d:w.heap.size<=g) (cs):Upd S S' w (w'.setRow g cs) :=
 ⟨h.os,h.tape,h.output,by simp;exact h.size,fun k c a=>(yD w' g k cs (by omega)).trans (h.block k c a),h.new⟩
theorem pbc (s i j):bs (s.extract i j)=((bs s).drop i).take (j - i):=by
 simp [bs,ByteArray.data_extract,Array.toList_extract,List.extract_eq_take_drop]
theorem ptm (A B C D E F G H s w) (m:s.size=64) (k:Tabs w) :
 Calls prog 303 #[.agg #[.int .u32 (A.toNat:Int),.int .u32 (B.toNat:Int),.int .u32 (C.toNat:Int),.int .u32 (D.toNat:Int),.int .u32 (E.toNat:Int),.int .u32 (F.toNat:Int),.int .u32 (G.toNat:Int),.int .u32 (H.toNat:Int)],.string s] w (fun e w'=>∃ d B' c h a g j f,Hid (mixS ⟨A,B,C,D,E,F,G,H⟩ (bs s)=⟨d,B',c,h,a,g,j,f⟩)/\e=.returned (.agg #[.int .u32 (d.toNat:Int),.int .u32 (B'.toNat:Int),.int .u32 (c.toNat:Int),.int .u32 (h.toNat:Int),.int .u32 (a.toNat:Int),.int .u32 (g.toNat:Int),.int .u32 (j.toNat:Int),.int .u32 (f.toNat:Int)])/\Uq w w'):=by
 refine (psa ⟨A,B,C,D,E,F,G,H⟩ s w m k).mono ?_;rintro e w' ⟨rfl,n⟩;obtain ⟨V,o⟩:=az (mixS ⟨A,B,C,D,E,F,G,H⟩ (bs s));obtain ⟨d,B',c,h,a,g,j,f⟩:=V;rw [<-o];exact ⟨d,B',c,h,a,g,j,f,rfl,rfl,n⟩
structure SumW (w wr:World) (v:St):Prop where
 hr:wr.heap[w.heap.size]? =some (.cells (byteVals (List.replicate 32 0)).toArray 60 (0,0))
 hs:wr.heap[w.heap.size+1]? =some (.cells (wordVals v.l).toArray 275 (0,0))
 up:Upd [] [] w wr
theorem SumW.start (w v):SumW w ((w.alloc (.cells (byteVals (List.replicate 32 0)).toArray 60)).alloc (.cells (wordVals v.l).toArray 275)) v:=by
 refine ⟨?_,?_,(uR.alloc _).alloc _⟩
 · rw [xY _ _ _ (by simp)];exact xi _ _
 · simpa using xi (w.alloc (.cells (byteVals (List.replicate 32 0)).toArray 60)) _
theorem SumW.drew {w wr v} (h:SumW w wr v):SumW w wr.drew v:=⟨h.hr,h.hs,h.up.drew⟩
theorem SumW.upd {w wr a v} (h:SumW w wr v) (u:Uq wr a):SumW w a v:=by
 refine ⟨?_,?_,h.up.trans u⟩
 · rw [u.block _ (xq.1 h.hr).1 (by simp)];exact h.hr
 · rw [u.block _ (xq.1 h.hs).1 (by simp)];exact h.hs
theorem SumW.st {w wr v} (h:SumW w wr v) {k} (a:k<8):wr.cell? ⟨w.heap.size+1,k,none⟩=some (.int .u32 ((v.l.getD k 0).toNat:Int)):=pao _ _ _ _ _ h.hs a
theorem SumW.fz {w wr v} (h:SumW w wr v) (k):wr.frozen? ⟨w.heap.size+1,k,none⟩=false:=xp _ _ _ _ _ h.hs
theorem SumW.cells {w wr A B C D E F G H} (h:SumW w wr ⟨A,B,C,D,E,F,G,H⟩) :
 wr.cell? ⟨w.heap.size+1,0,none⟩=some (.int .u32 (A.toNat:Int))/\wr.cell? ⟨w.heap.size+1,1,none⟩=some (.int .u32 (B.toNat:Int))/\wr.cell? ⟨w.heap.size+1,2,none⟩=some (.int .u32 (C.toNat:Int))/\wr.cell? ⟨w.heap.size+1,3,none⟩=some (.int .u32 (D.toNat:Int))/\wr.cell? ⟨w.heap.size+1,4,none⟩=some (.int .u32 (E.toNat:Int))/\wr.cell? ⟨w.heap.size+1,5,none⟩=some (.int .u32 (F.toNat:Int))/\wr.cell? ⟨w.heap.size+1,6,none⟩=some (.int .u32 (G.toNat:Int))/\wr.cell? ⟨w.heap.size+1,7,none⟩=some (.int .u32 (H.toNat:Int)) :=
 ⟨h.st (k:=0) (by omega),h.st (k:=1) (by omega),h.st (k:=2) (by omega),h.st (k:=3) (by omega),h.st (k:=4) (by omega),h.st (k:=5) (by omega),h.st (k:=6) (by omega),h.st (k:=7) (by omega)⟩
theorem SumW.store {w wr v A B C D E F G H} (h:SumW w wr v):SumW w (((((((((wr.setCell ⟨w.heap.size+1,0,none⟩ (.int .u32 (A.toNat:Int))).setCell ⟨w.heap.size+1,1,none⟩ (.int .u32 (B.toNat:Int))).setCell ⟨w.heap.size+1,2,none⟩ (.int .u32 (C.toNat:Int))).setCell ⟨w.heap.size+1,3,none⟩ (.int .u32 (D.toNat:Int))).setCell ⟨w.heap.size+1,4,none⟩ (.int .u32 (E.toNat:Int))).setCell ⟨w.heap.size+1,5,none⟩ (.int .u32 (F.toNat:Int))).setCell ⟨w.heap.size+1,6,none⟩ (.int .u32 (G.toNat:Int))).setCell ⟨w.heap.size+1,7,none⟩ (.int .u32 (H.toNat:Int)))) ⟨A,B,C,D,E,F,G,H⟩:=by
 have j:w.heap.size<=w.heap.size+1:=by omega
 refine ⟨?_,?_,(((((((h.up.setNew (p:=⟨_,_,none⟩) j _).setNew (p:=⟨_,_,none⟩) j _).setNew (p:=⟨_,_,none⟩) j _).setNew (p:=⟨_,_,none⟩) j _).setNew (p:=⟨_,_,none⟩) j _).setNew (p:=⟨_,_,none⟩) j _).setNew (p:=⟨_,_,none⟩) j _).setNew (p:=⟨_,_,none⟩) j _⟩
 · rw [xE _ _ _ _ (by simp),xE _ _ _ _ (by simp),xE _ _ _ _ (by simp),xE _ _ _ _ (by simp),xE _ _ _ _ (by simp),xE _ _ _ _ (by simp),xE _ _ _ _ (by simp),xE _ _ _ _ (by simp)];exact h.hr
 · obtain ⟨a,b,c,d,e,f,g,x⟩:=v;have m:=xg _ (w.heap.size+1) 0 _ _ (Value.int .u32 (A.toNat:Int)) h.hs;have q:=xg _ (w.heap.size+1) 1 _ _ (Value.int .u32 (B.toNat:Int)) m;have u:=xg _ (w.heap.size+1) 2 _ _ (Value.int .u32 (C.toNat:Int)) q;have k:=xg _ (w.heap.size+1) 3 _ _ (Value.int .u32 (D.toNat:Int)) u;have o:=xg _ (w.heap.size+1) 4 _ _ (Value.int .u32 (E.toNat:Int)) k;have n:=xg _ (w.heap.size+1) 5 _ _ (Value.int .u32 (F.toNat:Int)) o;have t:=xg _ (w.heap.size+1) 6 _ _ (Value.int .u32 (G.toNat:Int)) n;have r:=xg _ (w.heap.size+1) 7 _ _ (Value.int .u32 (H.toNat:Int)) t;refine r.trans ?_;simp [wordVals,St.l,peK]
theorem piG (v k x c) (h:k<32) (d:x=v.l.getD (k / 4) 0) (g:c=8 * (3 - k % 4)) :
 (byteVals ((outS v).take k ++ List.replicate (32 - k) 0)).toArray.setIfInBounds k (pbj (UInt8.ofNat (x.toNat / 2 ^ c)))=(byteVals ((outS v).take (k+1) ++ List.replicate (32 - (k+1)) 0)).toArray:=by
 have a:((outS v).take k).length=k:=by rw [xQ,pa2];omega
 have f:(outS v)[k]'(by rw [pa2];exact h)=UInt8.ofNat (x.toNat / 2 ^ c):=by
  simp [outS,d,g]
 have h1:(outS v).take (k+1)=(outS v).take k ++ [UInt8.ofNat (x.toNat / 2 ^ c)]:=by
  rw [zn (by rw [pa2];exact h),f]
 have e:List.replicate (32 - k) (0:UInt8)=0 :: List.replicate (32 - (k+1)) 0:=by rw [show 32 - k=(32 - (k+1))+1 by omega,yL]
 rw [h1,e,xG,xS];congr 1;simp only [byteVals,uK,zr,zU];rw [ya _ _ (by rw [yx,a];exact xj _),yx,a,yC,xX];rfl
theorem pae (a b):bs (a ++ b)=bs a ++ bs b:=by
 simp [bs,ByteArray.data_append]
theorem pmO (s n) (h:64 * n+64<=s.length):((padS s).drop (64 * n)).take 64=(s.drop (64 * n)).take 64:=by
 simp only [padS,xG];rw [List.drop_append_of_le_length (by omega),List.take_append_of_le_length (by rw [zJ];omega)]
theorem pn0 (s w) (hs:s.size<=281474976710656) (K:Tabs w) :
 Calls prog 275 #[.string s] w (Mk (.agg (byteVals (sha (bs s))).toArray) w):=by
 have U:=K.fc 0 (by omega);have f1:=K.fc 1 (by omega);have f2:=K.fc 2 (by omega);have f3:=K.fc 3 (by omega);have f4:=K.fc 4 (by omega);have f5:=K.fc 5 (by omega);have f6:=K.fc 6 (by omega);have f7:=K.fc 7 (by omega);obtain ⟨V,hV⟩:=az (pem);rw [<-hV] at U f1 f2 f3 f4 f5 f6 f7;have h0:=SumW.start w V;have aV:=ah hV;clear hV;obtain ⟨a,b,c,d,e,f,g,h⟩:=V
 replace U:w.cell? ⟨4,0,none⟩=some (.int .u32 (a.toNat:Int)):=U
 replace f1:w.cell? ⟨4,1,none⟩=some (.int .u32 (b.toNat:Int)):=f1
 replace f2:w.cell? ⟨4,2,none⟩=some (.int .u32 (c.toNat:Int)):=f2
 replace f3:w.cell? ⟨4,3,none⟩=some (.int .u32 (d.toNat:Int)):=f3
 replace f4:w.cell? ⟨4,4,none⟩=some (.int .u32 (e.toNat:Int)):=f4
 replace f5:w.cell? ⟨4,5,none⟩=some (.int .u32 (f.toNat:Int)):=f5
 replace f6:w.cell? ⟨4,6,none⟩=some (.int .u32 (g.toNat:Int)):=f6
 replace f7:w.cell? ⟨4,7,none⟩=some (.int .u32 (h.toNat:Int)):=f7
 have a8:4<w.heap.size:=x6 _ _ U;obtain ⟨R,hR⟩:=az (Value.agg (byteVals (sha (bs s))).toArray);rw [<-hR];have aQ:=ah hR;clear hR;obtain ⟨q,aF⟩:=az (s.size / 64);have hq:(s.size:Int) / 64=(q:Int):=by omega
 have a3:64 * q<=s.size:=by omega
 have a7:s.size<64 * q+64:=by omega
 have HQ:=ah aF;clear aF;go_in;go_wp2_with fail;clear hq;go_loopw [5] (fun i wr=>∃ (k n:Nat) (x:St),i=.int .i64 (k:Int)/\k=64 * n/\n<=q/\SumW w wr x/\Hid (x=pfb pem (padS (bs s)) n)) (fun i _=>64 * q - (intOf i).toNat)
 case atStart=>exact ⟨0,0,_,rfl,rfl,xu _,h0,aV.out⟩
 case round =>
  clear h0 U f1 f2 f3 f4 f5 f6 f7;obtain ⟨k,n,⟨A,B,C,D,E,F,G,H⟩,rfl,ab,aN,o,N⟩:=hrel;by_cases O:n<q
  · obtain ⟨c0,c1,c2,c3,c4,c5,c6,c7⟩:=o.cells;obtain ⟨p,y⟩:=az (k+64);have i64:IntKind.i64.wrap ((k:Int)+64)=(p:Int):=by rw [pam (by omega) (by omega)];omega
    have b1:(p:Int)<=(s.size:Int):=by omega
    have b2:(k:Int)<=(p:Int):=by omega
    have b3:k<=p:=by omega
    have b4:p<=s.size:=by omega
    have b5:(k:Int)<(q:Int) * 64:=by omega
    have t:=ah (xf ab y);clear ab y;have aa:=(K.upd o.up).upd uR.drew;have P:(s.extract k p).size=64:=by have:=t.out.2;simp [ByteArray.size_extract];omega
    have ag:=ah P;clear P;go_wp2_with fail;go_still_tail 6,(by kernel_rfl)
    go_wp2_with fail;refine (ptm A B C D E F G H _ _ ag.out aa).mono ?_;rintro e w2 ⟨A',B',C',D',E',F',G',H',HM,rfl,W⟩;have u:=o.drew.upd W;obtain ⟨d0,d1,d2,d3,d4,d5,d6,d7⟩:=u.cells;have z0:=u.fz 0;have z1:=u.fz 1;have z2:=u.fz 2;have z3:=u.fz 3;have z4:=u.fz 4;have z5:=u.fz 5;have z6:=u.fz 6;have z7:=u.fz 7;go_wp2_with fail;refine ⟨⟨p,n+1,_,rfl,by have:=t.out.1;have:=t.out.2;omega,by omega,u.store,?_⟩,?_⟩
    · show _=_;rw [pfb,<-N.out,<-HM.out,pbc,t.out.2,t.out.1,pmO _ _ (by rw [pac];omega),show 64 * n+64 - 64 * n=64 by omega]
    · have:=t.out.1;have:=t.out.2;simp [intOf];omega
  · have y:(k:Int)=(q:Int) * 64:=by omega
    obtain rfl:n=q:=by omega
    rw [y];clear O ab y aN;obtain ⟨z,hz⟩:=az (pcz s.size);have aT:(120 - (((s.size - n * 64:Nat):Int)+1)) % 64=(z:Int):=by rw [hz,pcz];omega
    have a6:z<64:=by rw [hz,pcz];omega
    have HZ:=ah hz;clear hz;go_wp2_with fail;refine (Tryz.strings_Repeat ⟨#[0]⟩ z wr (by omega) (by show 1 * z<=_;omega)).mono ?_;rintro e w2 ⟨rfl,aG⟩;have W:=paE aG;have u:=o.upd W;clear aG aT;generalize av:ByteArray.mk (Lib.repeatL (ByteArray.mk #[0]).data.toList z).toArray=rz;have ak:bs rz=List.replicate z 0:=by
     rw [<-av,pcM];have:=Lib.repeatL_replicate 0 1 z;rw [zf] at this;exact this
    have ba:rz.size<64:=by
     have:=xU List.length ak;rw [pac,zx] at this;omega
    have aK:=ah ak;clear av ak;go_wp2_with fail;have aH:((s.size:Int) * 8)=((s.size * 8:Nat):Int):=by omega
    rw [aH];clear aH;refine (pmN (s.size * 8) w2 (by omega)).mono ?_;rintro e w3 ⟨r,HR,rfl,ay⟩;have bb:r.size<=8:=by
     have:=xU List.length HR.out;rw [pac,pau] at this;omega
    have aC:=u.upd ay;clear o u W ay;obtain ⟨T,hT⟩:=az (s.extract (n * 64) s.size ++ ⟨#[128]⟩ ++ (rz ++ r));have af:bs T=(padS (bs s)).drop (64 * n):=by
     rw [hT,pae,pae,pae,HR.out,aK.out,pbc,padS,pac,<-HZ.out,xG,xG,xG,List.drop_append_of_le_length (by rw [pac];omega),yk n 64,xy (by rw [zJ,pac];omega)];rfl
    have an:T.size=(padS (bs s)).length - 64 * n:=by rw [<-pac,af,zJ]
    obtain ⟨m,ax⟩:∃ m,T.size=64 * m:=by
     refine ⟨T.size / 64,?_⟩;have:=plu (bs s);omega
    have a5:T.size<=1000:=by
     rw [an,pc2,pac,pcz];omega
    have aA:=ah (xf af an);have HT:=ah hT;clear af an hT;go_wp2_with fail;rw [<-HT.out];clear HT;have Y:(T.size:Int)=64 * (m:Int):=by omega
    have ad:=ah ax;clear ax;go_loopw [7] (fun i wr=>∃ (k j:Nat) (x:St),i=.int .i64 (k:Int)/\k=64 * j/\j<=m/\SumW w wr x/\Hid (x=pfb pem (padS (bs s)) (n+j))) (fun i _=>64 * m - (intOf i).toNat)
    case atStart=>exact ⟨0,0,_,rfl,rfl,xu _,aC,N.out⟩
    case round =>
     clear aC Y N;obtain ⟨k,j,⟨A,B,C,D,E,F,G,H⟩,rfl,aj,aJ,o,N⟩:=hrel;have Y:T.size=64 * m:=ad.out;by_cases O:j<m
     · obtain ⟨c0,c1,c2,c3,c4,c5,c6,c7⟩:=o.cells;obtain ⟨p,y⟩:=az (k+64);have i64:IntKind.i64.wrap ((k:Int)+64)=(p:Int):=by rw [pam (by omega) (by omega)];omega
       have b1:(p:Int)<=(T.size:Int):=by omega
       have b2:(k:Int)<=(p:Int):=by omega
       have b3:k<=p:=by omega
       have b4:p<=T.size:=by omega
       have b5:k<T.size:=by omega
       have t:=ah (xf aj y);have P:(T.extract k p).size=64:=by simp [ByteArray.size_extract];omega
       clear aj y Y;have aa:=(K.upd o.up).upd uR.drew;have ag:=ah P;clear P;go_wp2_with fail;go_still_tail 6,(by kernel_rfl)
       go_wp2_with fail;refine (ptm A B C D E F G H _ _ ag.out aa).mono ?_;rintro e w5 ⟨A',B',C',D',E',F',G',H',HM,rfl,aY⟩;have M:=o.drew.upd aY;obtain ⟨d0,d1,d2,d3,d4,d5,d6,d7⟩:=M.cells;have z0:=M.fz 0;have z1:=M.fz 1;have z2:=M.fz 2;have z3:=M.fz 3;have z4:=M.fz 4;have z5:=M.fz 5;have z6:=M.fz 6;have z7:=M.fz 7;go_wp2_with fail;refine ⟨⟨p,j+1,_,rfl,by have:=t.out.1;have:=t.out.2;omega,by omega,M.store,?_⟩,?_⟩
       · show _=_;rw [<-ud,pfb,<-N.out,<-HM.out,pbc,t.out.2,t.out.1,aA.out.1,List.drop_drop,show 64 * j+64 - 64 * j=64 by omega,show 64 * n+64 * j=64 * (n+j) by omega]
       · have:=t.out.1;have:=t.out.2;have:=ad.out;simp [intOf];omega
     · have y:(k:Int)=(T.size:Int):=by omega
       obtain rfl:j=m:=by omega
       rw [y];clear O aj y aJ Y;obtain ⟨X,hX⟩:∃ X:St,X=⟨A,B,C,D,E,F,G,H⟩:=⟨_,rfl⟩
       rw [<-hX] at o N;have h9:(wr.alloc (.cells (byteVals (List.replicate 32 0)).toArray 60)).heap[wr.heap.size]? =some (.cells (byteVals (List.replicate 32 0)).toArray 60 (0,0)):=xi _ _;have aE:=o.upd ((Upd.refl [] wr).alloc (.cells (byteVals (List.replicate 32 0)).toArray 60));have aP:w.heap.size+1<wr.heap.size:=(xq.1 o.hs).1;have H9:=ah h9;clear hX h9 o;generalize hg:wr.heap.size=g at *;go_wp2;go_loopw [57] (fun i wr=>∃ k:Nat,i=.int .i64 (k:Int)/\k<=32/\SumW w wr X/\Hid (wr.heap[g]? =some (.cells (byteVals ((outS X).take k ++ List.replicate (32 - k) 0)).toArray 60 (0,0)))) (fun i _=>32 - (intOf i).toNat)
       case atStart=>exact ⟨0,rfl,xu _,aE,H9.out⟩
       case round =>
        clear aE H9 hg;obtain ⟨k,rfl,hk,o,Q⟩:=hrel;by_cases O:k<32
        · obtain ⟨j,hj⟩:=az (k / 4);obtain ⟨m4,ac⟩:=az (k % 4);obtain ⟨m8,aB⟩:=az (m4 * 8);obtain ⟨J,am⟩:∃ J,J=8 * (3 - m4):=⟨_,rfl⟩
          have q1:=o.st (k:=j) (by omega);obtain ⟨x,Z⟩:=az (X.l.getD j 0);rw [<-Z] at q1;have i1:IntKind.i64.wrap ((k:Int) / 4)=(j:Int):=by rw [pam (by omega) (by omega)];omega
          have i2:IntKind.i64.wrap ((k:Int) % 4)=(m4:Int):=by rw [pam (by omega) (by omega)];omega
          have i3:IntKind.i64.wrap ((m4:Int) * 8)=(m8:Int):=by rw [pam (by omega) (by omega)];omega
          have i4:IntKind.i64.wrap (24 - (m8:Int))=(J:Int):=by rw [pam (by omega) (by omega)];omega
          have j8:(j:Int)<8:=by omega
          have bd:(k:Int)<32:=by omega
          have aR:∃ v0,wr.cell? ⟨g,k,none⟩=some v0:=by
           rw [xa wr g k _ _ _ Q.out];exact ⟨_,yv (by simp [byteVals,pa2];omega)⟩
          obtain ⟨v0,a9⟩:=aR;have bf:wr.frozen? ⟨g,k,none⟩=false:=xp wr g k _ _ Q.out;have h3:=xg wr g k _ _ (pbj (UInt8.ofNat (x.toNat / 2 ^ J))) Q.out;rw [piG X k x J O (by rw [Z,hj]) (by rw [am,ac])] at h3;have H3:=ah h3;have HK:=ah (xf hj (xf ac (xf aB am)));have bc:=ah Z;clear h3 hj ac aB am Z;go_wp2_with fail;have aM:24 - k % 4 * 8=J:=by have:=HK.out;omega
          rw [aM];have aZ:Value.int .u8 ((x.toNat:Int) / 2 ^ J % 256)=pbj (UInt8.ofNat (x.toNat / 2 ^ J)):=by
           show _=Value.int .u8 ((((UInt8.ofNat (x.toNat / 2 ^ J)).toNat:Nat)):Int);have:(UInt8.ofNat (x.toNat / 2 ^ J)).toNat=x.toNat / 2 ^ J % 256:=by simp
           rw [this];simp
          rw [aZ];have a4:w.heap.size+1<g:=aP;refine ⟨⟨k+1,by go_num,by omega,⟨?_,?_,o.up.setNew (by show w.heap.size<=g;omega) _⟩,H3.out⟩,by simp [intOf];omega⟩
          · rw [xE _ _ _ _ (by show w.heap.size≠g;omega)];exact o.hr
          · rw [xE _ _ _ _ (by show w.heap.size+1≠g;omega)];exact o.hs
        · have ar:k=32:=by omega
          have ap:(k:Int)=32:=by omega
          have ai:=Q.out;rw [ar,xy (by rw [pa2];omega),yC,zg,yl] at ai;have aD:=ah ai;rw [ap];clear O hk ar ap ai Q;obtain ⟨cs,S⟩:=az ((byteVals (outS X)).toArray);have ao:cs.size=32:=by rw [S];simp [byteVals,pa2]
          have aw:cs.all (·.oneCell')=true:=by
           rw [yg];intro v hv;rw [S] at hv;exact paL _ v (by simpa using hv)
          have al:=aD.out;rw [<-S] at al;have a1:=ah S;have a0:=ah aw;have aI:=ah (xf ao al);have a2:=ah o.hr;have aL:=ah o.up;have au:(wr.setRow w.heap.size cs).heap[w.heap.size]? =some (.cells cs 60 (0,0)):=xz wr w.heap.size _ _ _ _ o.hr;have aO:=ah au;have aq:(prog.info? 60).map (·.size)=some cs.size:=by rw [ao];kernel_rfl
          have HI:=ah aq;clear S aw ao aD al au aq o;go_wp2_with (first | (refine bL aI.out.2 underlying60 HI ?_) | (refine yH rfl 60 _ _ rfl w.heap.size cs rfl rfl _ _ a2.out HI.out (by rw [aI.out.1];simp [byteVals]) a0.out ?_))
          refine bE aO underlying60 HI ⟨?_,aL.out.setRowNew (xj _) cs⟩;have aS:(padS (bs s)).length / 64=n+j:=by
           have e1:=aA.out.2;have e2:=ad.out;have e3:=pc2 (bs s);rw [pac] at e3;omega
          rw [aQ.out,a1.out,N.out,sha,aS]
theorem aX {a w:World} {g:Nat} {B:Array Value} {t:TypeId} (f:Hid (w.heap[g]? =some (.cells B t (0,0)))) (u:Uq a w) (b:a.heap.size<=g) (A:Array Value) :
 ∃ W,W=w.setRow g A/\Hid (W.heap[g]? =some (.cells A t (0,0)))/\Uq a W:=⟨_,rfl,xz _ _ _ _ _ _ f.out,u.setRowNew b A⟩
section
variable {w w0 W : World} {g : Nat} {A B : Array Value} {t : TypeId}
theorem bX (h:w.setRow g A=W) (r:w.heap[g]? =some (.cells B t (0,0))):Hid (W.heap[g]? =some (.cells A t (0,0))):=by rw [<-h];exact xz _ _ _ _ _ _ r
theorem bY (h:w.setRow g A=W) (u:Uq w0 w) (b:w0.heap.size<=g):Uq w0 W:=by rw [<-h];exact u.setRowNew b _
end
end Go.Proofs.YtkhjolbbpdaplaaGreatDoor
