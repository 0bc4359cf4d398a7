/- Slices of ints and of strings, to be read and what follows. -/
import Derived.Test.YtkhjolbbpdaplaaGreatDoorHAD
namespace Go.Proofs.YtkhjolbbpdaplaaGreatDoor
set_option maxHeartbeats 2000000
open Go.RowKit Go.Proofs.Tryz
set_option maxRecDepth 100000
abbrev xF:=@List.length_cons
abbrev xN:=@List.take_add_one
abbrev xO:=@Int.tmod_eq_emod_of_nonneg
abbrev xP:=@Int.tdiv_eq_ediv_of_nonneg
abbrev xR:=@List.getElem?_take_of_lt
abbrev xT:=@ByteArray.size_append
abbrev yI:=@World.size_alloc
abbrev zu:=@run_loadVar_row
abbrev zy:=@List.not_mem_nil
abbrev zB:=@List.getElem?_replicate
abbrev zE:=@Lib.decDigits_one
abbrev zN:=@List.drop_zero
abbrev zQ:=@UInt8.toNat_inj
abbrev uf:=@List.replicate_succ'
abbrev uh:=@bne_iff_ne
abbrev uv:=@List.mem_range
abbrev uY:=@or_false
abbrev vw:=@List.getElem?_range
def pc4 (l:List Int):List Value:=l.map fun x=>Value.int .i64 x
theorem piU (l x):pc4 (l ++ [x])=pc4 l ++ [.int .i64 x]:=by simp [pc4]
def RdI (w:World) (v:Value) (l:List Int):Prop:=∃ ao cap,v=.slice ao l.length cap/\l.length<=cap/\cap<=maxLen/\∀ (k:Nat) x,l[k]? =some x->∃ g,ao=some ⟨g,0,none⟩/\g<w.heap.size/\w.cell? ⟨g,k,none⟩=some (.int .i64 x)
theorem RdI.nil (w):RdI w (.slice none 0 0) []:=⟨none,0,rfl,xj _,by simp,fun k x h=>by simp at h⟩
theorem RdI.upd {w w' v l} (h:RdI w v l) (u:Uq w w'):RdI w' v l:=by
 obtain ⟨d,c,rfl,h1,m,f⟩:=h;refine ⟨d,c,rfl,h1,m,fun k x j=>?_⟩;obtain ⟨g,e,a,n⟩:=f k x j;exact ⟨g,e,xA a u.size,(u.cell a (by simp)).trans n⟩
theorem RdI.of_row {w v l t} (h:w.ownsRow 0 t 1 v l.length (pc4 l)):RdI w v l:=by
 by_cases h0:l.length=0
 · obtain ⟨m,c,rfl,h1,d⟩:=pan h;exact ⟨m,c,rfl,h1,d,fun k x a=>by have:=(xe.1 a).1;omega⟩
 · obtain ⟨g,c,p,rfl,f,h1,d,o,n⟩:=pca h (by omega);refine ⟨_,c,rfl,h1,d,fun k x a=>⟨g,rfl,(xq.1 f).1,?_⟩⟩;have j:=(xe.1 a).1;rw [xa w g k _ _ _ f];have e:(pc4 l)[k]? =some (.int .i64 x):=by simp [pc4,a]
   rw [<-n,zf,xR j] at e;simpa using e
theorem RdI.form {w v l} (h:RdI w v l):∃ c a,v=.slice c l.length a/\l.length<=a/\a<=9223372036854775807/\∀ (k) x,l[k]? =some x->∃ g,c=some ⟨g,0,none⟩/\g<w.heap.size/\w.cell? ⟨g,k,none⟩=some (.int .i64 x):=by
 obtain ⟨c,a,e,h1,d,f⟩:=h;exact ⟨c,a,e,h1,d,f⟩
def RdO (w:World) (v:Value) (l:List Int):Prop:=∃ ao cap,v=.slice ao l.length cap/\l.length<=cap/\cap<=maxLen/\∀ (k:Nat) x,l[k]? =some x->∃ g o,ao=some ⟨g,o,none⟩/\g<w.heap.size/\w.cell? ⟨g,o+k,none⟩=some (.int .i64 x)
theorem RdO.upd {w w' v l} (h:RdO w v l) (u:Uq w w'):RdO w' v l:=by
 obtain ⟨d,c,rfl,h1,m,f⟩:=h;refine ⟨d,c,rfl,h1,m,fun k x j=>?_⟩;obtain ⟨g,o,e,a,n⟩:=f k x j;exact ⟨g,o,e,xA a u.size,(u.cell (p:=⟨g,o+k,none⟩) a (by simp)).trans n⟩
theorem RdO.form {w v l} (h:RdO w v l):∃ c a,v=.slice c l.length a/\l.length<=a/\a<=9223372036854775807/\∀ (k) x,l[k]? =some x->∃ g o,c=some ⟨g,o,none⟩/\g<w.heap.size/\w.cell? ⟨g,o+k,none⟩=some (.int .i64 x):=by
 obtain ⟨c,a,e,h1,d,f⟩:=h;exact ⟨c,a,e,h1,d,f⟩
def RdS (w:World) (v:Value) (l:List (List UInt8)):Prop:=∃ ao cap,v=.slice ao l.length cap/\l.length<=cap/\cap<=maxLen/\∀ (k:Nat) x,l[k]? =some x->∃ g,ao=some ⟨g,0,none⟩/\g<w.heap.size/\w.cell? ⟨g,k,none⟩=some (strV x)
theorem RdS.nil (w):RdS w (.slice none 0 0) []:=⟨none,0,rfl,xj _,by simp,fun k x h=>by simp at h⟩
theorem RdS.upd {w w' v l} (h:RdS w v l) (u:Uq w w'):RdS w' v l:=by
 obtain ⟨d,c,rfl,h1,m,f⟩:=h;refine ⟨d,c,rfl,h1,m,fun k x j=>?_⟩;obtain ⟨g,e,a,n⟩:=f k x j;exact ⟨g,e,xA a u.size,(u.cell a (by simp)).trans n⟩
theorem RdS.of_row {w v l} (h:paU w v l):RdS w v l:=by
 by_cases h0:l.length=0
 · obtain ⟨m,c,rfl,h1,d⟩:=pan h;exact ⟨m,c,rfl,h1,d,fun k x a=>by have:=(xe.1 a).1;omega⟩
 · obtain ⟨g,c,p,rfl,f,h1,d,o,n⟩:=pca h (by omega);refine ⟨_,c,rfl,h1,d,fun k x a=>⟨g,rfl,(xq.1 f).1,?_⟩⟩;have j:=(xe.1 a).1;rw [xa w g k _ _ _ f];have e:(pbD l)[k]? =some (strV x):=by simp [pbD,a]
   rw [<-n,zf,xR j] at e;simpa using e
theorem RdS.form {w v l} (h:RdS w v l):∃ c a,v=.slice c l.length a/\l.length<=a/\a<=9223372036854775807/\∀ (k) x,l[k]? =some x->∃ g,c=some ⟨g,0,none⟩/\g<w.heap.size/\w.cell? ⟨g,k,none⟩=some (strV x):=by
 obtain ⟨c,a,e,h1,d,f⟩:=h;exact ⟨c,a,e,h1,d,f⟩
end Go.Proofs.YtkhjolbbpdaplaaGreatDoor

namespace Go.Proofs.YtkhjolbbpdaplaaGreatDoor
set_option maxHeartbeats 2000000
open Go.ChangeShapes Go.WideShapes Go.ChangeAt Go.RowKit Go.Deep Go.Joins Go.Proofs.Tryz
set_option maxRecDepth 100000
section
variable {H : Type} {enc : TypeId × Value -> H} {w : World}
theorem pmV {v d p r z} (D:Value.okWide prog w r z 22 v) (h:DataW.Trod enc prog w 0 (fun _=>true) true 22 v d p):∃ l,RdO w v l/\(∀ x∈l,pab x)/\l.length<=9223372036854775807:=by
 have e:pgQ prog 8 3=some [.i .i64]:=by kernel_rfl
 obtain ⟨u,c,g,rfl,y,n,C⟩:=poi underlying22 e (by simp) (by kernel_rfl) D h;rcases C with rfl | ⟨b,off,rfl,A,t⟩
 · exact ⟨[],⟨u,g,rfl,by simp,n,fun k x a=>by simp at a⟩,(fun x a=>by cases a),by simp⟩
 · have E:∀ i,i<c->∃ x:Int,pab x/\w.cell? ⟨b,off+i,none⟩=some (.int .i64 x):=by
    intro i o;obtain ⟨cs,B,q⟩:=t i o;obtain ⟨x,a,F⟩:=B.i64 (i:=0) rfl;refine ⟨x,F,?_⟩;have:=q 0 _ a;simpa using this
   obtain ⟨f,j⟩:=choose_lt E;refine ⟨(List.range c).map f,⟨some ⟨b,off,none⟩,g,by simp,by simp;exact y,n,fun k x a=>?_⟩,fun x a=>?_,by simp;omega⟩
   · have m:k<c:=by
      have:=(xe.1 a).1;simpa using this
     simp only [ys,vw m,Option.map_some,yz] at a;subst a;exact ⟨b,off,rfl,A,(j k m).2⟩
   · obtain ⟨k,e,rfl⟩:=zh.1 a;exact (j k (uv.1 e)).1
end
section
variable {H : Type} {enc : TypeId × Value -> H} {P : Program} {w : World} {base : Nat} {sp : Nat -> Bool} {hd : Bool}
theorem pmW {t v d p r J} (f) (F:pgQ P f t=some [.i .i64,.i .i64,.i .i64,.i .i64,.i .i64]) (M:Value.okWide P w r J t v) (h:DataW.Trod enc P w base sp hd t v d p) (k:(∃ n e,P.underlying t=some (.array n e))\/∃ B,P.underlying t=some (.struct B)) :
 ∃ a b c e g,v=.agg #[.int .i64 a,.int .i64 b,.int .i64 c,.int .i64 e,.int .i64 g]/\pab a/\pab b/\pab c/\pab e/\pab g:=by
 obtain ⟨cs,rfl,j⟩:=piT f F M h k;obtain ⟨a,k,K⟩:=j.i64 (i:=0) rfl;obtain ⟨b,q,G⟩:=j.i64 (i:=1) rfl;obtain ⟨c,A,wc⟩:=j.i64 (i:=2) rfl;obtain ⟨e,m,D⟩:=j.i64 (i:=3) rfl;obtain ⟨g,o,E⟩:=j.i64 (i:=4) rfl;have C:cs.toList.length=5:=j.1;refine ⟨a,b,c,e,g,?_,K,G,wc,D,E⟩;congr 1;apply Array.ext'
 match h:cs.toList,C with
 | [x,y,z,u,v],_ =>
  rw [h] at k q A m o;simp at k q A m o;rw [k,q,A,m,o]
end
end Go.Proofs.YtkhjolbbpdaplaaGreatDoor

namespace Go.Proofs.YtkhjolbbpdaplaaGreatDoor
set_option maxHeartbeats 2000000
set_option maxRecDepth 100000
def phU:List UInt8:=List.replicate 64 48
def tPre:List UInt8:=[101,118,101,110,116,32,53,32,52,32,51,32,48,32,48,32] ++ (phU ++ [32,49,58])
def tA:List UInt8:=tPre ++ [97]
def tB:List UInt8:=tPre ++ [98]
def three:List UInt8:=[116,104,114,101,101]
theorem poj:keyN three=157892282797220714:=by decide +kernel
theorem psi:nonceN 157892282797220714 tA=582795021020609833:=by decide +kernel
theorem ptr:gP 157892282797220714=1329328167538474094:=by
 rw [gP,<-pg4 Pn 64 4 157892282797220714 (by decide)];decide +kernel
theorem k_r:gP 582795021020609833=1933573506679164813:=by
 rw [gP,<-pg4 Pn 64 4 582795021020609833 (by decide)];decide +kernel
theorem k_ca:pdr 1933573506679164813 1329328167538474094 tA=159858859656014421:=by decide +kernel
theorem k_cb:pdr 1933573506679164813 1329328167538474094 tB=223578461168602368:=by decide +kernel
theorem pok:verB (gP (keyN three):Int) tB (gP (nonceN (keyN three) tA):Int) (sWith (keyN three) (nonceN (keyN three) tA) tA:Int)=false:=by
 cases h:verB (gP (keyN three):Int) tB (gP (nonceN (keyN three) tA):Int) (sWith (keyN three) (nonceN (keyN three) tA) tA:Int) with
 | false=>rfl
 | true =>
  rcases ver_two (ver_with (keyN three) (nonceN (keyN three) tA) tA) h with k | k
  · rw [poj,psi,ptr,k_r,k_ca,k_cb] at k;exact absurd k (by decide)
  · rw [poj,ptr] at k;exact absurd k (by decide)
end Go.Proofs.YtkhjolbbpdaplaaGreatDoor

namespace Go.Proofs.YtkhjolbbpdaplaaGreatDoor
set_option maxHeartbeats 2000000
set_option maxRecDepth 100000
open Go Go.RowKit
def digs (v:Nat):List UInt8:=if v=0 then [] else Lib.decDigits v
theorem piV (v) (h:0<v):digs v=digs (v / 10) ++ [UInt8.ofNat (48+v % 10)]:=by
 unfold digs;rw [yy (by omega),Lib.decDigits];by_cases a:v<10
 · rw [dif_pos a,xH (by omega),show v % 10=v by omega];rfl
 · rw [dif_neg a,yy (by omega)]
theorem phV {v} (h:0<v):digs v=Lib.decDigits v:=by unfold digs;rw [yy (by omega)]
theorem pqM {v} (h:v<=9223372036854775808):(digs v).length<=19:=by
 unfold digs;split
 · simp
 · have e:(10:Nat) ^ 19=10000000000000000000:=by decide
   have:=peL 18 v (by rw [e];omega);omega
theorem piW:Lib.itoa 0=[48]:=by
 show Lib.decDigits 0=_;rw [zE (by omega)];rfl
theorem plI {n} (h:0<n):Lib.itoa n=digs n.natAbs:=by
 unfold Lib.itoa;rw [yy (by omega),phV (by omega),show n.toNat=n.natAbs by omega]
theorem plJ {n} (h:n<0):Lib.itoa n=45 :: digs n.natAbs:=by
 unfold Lib.itoa;rw [xH h,phV (by omega)]
def valD:List UInt8->Nat
 | l=>l.foldl (fun a c=>a * 10+(c.toNat - 48)) 0
def pmX (l:List UInt8):Prop:=∃ m:Int,pab m/\l=Lib.itoa m
theorem pbY {u} (h:u<=9223372036854775808):(Lib.decDigits u).length<=19:=by
 have e:(10:Nat) ^ 19=10000000000000000000:=by decide
 exact peL 18 u (by rw [e];omega)
def ptt (l:List UInt8) (n:Int) (ok:Bool):Prop:=pab n/\(ok=true->l=Lib.itoa n)/\(ok=false->¬ pmX l)
theorem pep {l} (h:¬ pmX l):ptt l 0 false:=⟨⟨by omega,by omega⟩,(fun h=>by cases h),fun _=>h⟩
end Go.Proofs.YtkhjolbbpdaplaaGreatDoor

namespace Go.Proofs.YtkhjolbbpdaplaaGreatDoor
set_option maxHeartbeats 2000000
set_option maxRecDepth 100000
open Go Go.RowKit
def hexD (n:Nat):UInt8:=UInt8.ofNat (if n<10 then 48+n else 87+n)
def digH (c:UInt8):Option Nat:=if 48<=c.toNat/\c.toNat<=57 then some (c.toNat - 48) else if 97<=c.toNat/\c.toNat<=102 then some (c.toNat - 87) else none
theorem pcO:∀ n,n<16->digH (hexD n)=some n:=by decide
theorem pf6 {c n} (h:digH c=some n):n<16/\hexD n=c:=by
 unfold digH at h;split at h
 · injection h with h;subst h;refine ⟨by omega,zQ.1 ?_⟩;unfold hexD;rw [xH (by omega),yn];omega
 · split at h
   · injection h with h;subst h;refine ⟨by omega,zQ.1 ?_⟩;unfold hexD;rw [yy (by omega),yn];omega
   · cases h
theorem piX:∀ n,n<16->hexD n≠32:=by decide
def hexL:List UInt8->List UInt8
 | []=>[]
 | b :: r=>hexD (b.toNat / 16) :: hexD (b.toNat % 16) :: hexL r
theorem paO:∀ l,(hexL l).length=2 * l.length
 | []=>rfl
 | b :: r=>by rw [hexL,xF,xF,paO r,xF];omega
theorem plK:∀ a b,hexL (a ++ b)=hexL a ++ hexL b
 | [],b=>rfl
 | x :: r,b=>by rw [yA,hexL,hexL,plK r b];rfl
theorem pbx:∀ l,(32:UInt8) ∉ hexL l
 | []=>by simp [hexL]
 | b :: r=>by
  have a:b.toNat<256:=b.toNat_lt
  rw [hexL,yo,yo]
  rintro (h | h | h)
  · exact piX _ (by omega) h.symm
  · exact piX _ (by omega) h.symm
  · exact pbx r h
theorem plL {a b} (d:a<16) (c:b<16) (h:hexD a=hexD b):a=b:=by
 have:=pcO a d;rw [h,pcO b c] at this;injection this with this;exact this.symm
theorem pdO:∀ {a b:List UInt8},hexL a=hexL b->a=b
 | [],[],_=>rfl
 | [],b :: r,h=>by simp [hexL] at h
 | a :: r,[],h=>by simp [hexL] at h
 | a :: r,b :: s,h=>by
  have f:a.toNat<256:=a.toNat_lt
  have d:b.toNat<256:=b.toNat_lt
  rw [hexL,hexL] at h
  injection h with h1 h
  injection h with h2 h
  have c:=plL (by omega) (by omega) h1
  have e:=plL (by omega) (by omega) h2
  rw [zQ.1 (show a.toNat=b.toNat by omega),pdO h]
def pol (l h:List UInt8) (ok:Bool):Prop:=h.length=32/\(ok=true->l=hexL h)/\(ok=false->h=List.replicate 32 0/\∀ h':List UInt8,h'.length=32->l≠hexL h')
theorem pom {a b q} (c:a.length=32) (k:pol (hexL a) b q):b=a/\q=true:=by
 cases q with
 | true=>exact ⟨(pdO (k.2.1 rfl)).symm,rfl⟩
 | false=>exact absurd rfl ((k.2.2 rfl).2 a c)
structure Rc where
 kiosk:Int
 serial:Int
 seen:Int
 draw:ByteArray
 out:List UInt8
 hash:List UInt8
 prev:List UInt8
 r:Int
 s:Int
def Rc.ok (x:Rc):Prop:=pab x.kiosk/\pab x.serial/\pab x.seen/\x.out.length=32/\x.hash.length=32/\x.prev.length=32/\pab x.r/\pab x.s
def Rc.zero:Rc:=⟨0,0,0,ByteArray.empty,List.replicate 32 0,List.replicate 32 0,List.replicate 32 0,0,0⟩
theorem Rc.zero_ok:Rc.zero.ok:=⟨⟨by decide,by decide⟩,⟨by decide,by decide⟩,⟨by decide,by decide⟩,rfl,rfl,rfl,⟨by decide,by decide⟩,⟨by decide,by decide⟩⟩
def wRc:List UInt8:=[114,101,99,101,105,112,116]
def pa1 (x:Rc):List UInt8:=wRc ++ 32 :: (Lib.itoa x.kiosk ++ 32 :: (Lib.itoa x.serial ++ 32 :: (Lib.itoa x.seen ++ 32 :: (hexL x.out ++ 32 :: (hexL x.hash ++ 32 :: (hexL x.prev ++ 32 :: bs x.draw))))))
def pcg (x:Rc):List UInt8:=pb4 x.r x.s ++ 32 :: pa1 x
theorem prS (c) (a:¬ (48<=c.toNat/\c.toNat<=57)) (d:c.toNat≠45) (n):c ∉ Lib.itoa n:=by
 intro h;unfold Lib.itoa at h;split at h
 · simp only [yo] at h;rcases h with h | h
   · exact d (by rw [h];rfl)
   · exact a (pcN _ _ h)
 · exact a (pcN _ _ h)
theorem itoa_no32 (n):(32:UInt8) ∉ Lib.itoa n:=prS 32 (by decide) (by decide) n
theorem pon (n):(58:UInt8) ∉ Lib.itoa n:=prS 58 (by decide) (by decide) n
theorem peN (a b):(32:UInt8) ∉ pb4 a b:=by
 unfold pb4;intro h;rw [yq,yq] at h;rcases h with (h | h) | h
 · exact itoa_no32 _ h
 · simp at h
 · exact itoa_no32 _ h
theorem pdu {c} {a b d b':List UInt8} (f:c ∉ a) (e:c ∉ d) (h:a ++ c :: b=d ++ c :: b'):a=d/\b=b':=by
 have h1:=pbH c a b f;rw [h,pbH c d b' e] at h1;simp only [yY] at h1;exact ⟨h1.1.symm,h1.2.1.symm⟩
theorem pcI {a b} (h:bs a=bs b):a=b:=by
 cases a;cases b
 simp only [bs,Array.toList_inj] at h;rw [h]
theorem poo {x y} (a:x.ok) (m:y.ok) (h:pa1 x=pa1 y):x.kiosk=y.kiosk/\x.serial=y.serial/\x.seen=y.seen/\x.out=y.out/\x.hash=y.hash/\x.prev=y.prev/\x.draw=y.draw:=by
 obtain ⟨n,z,p,B,A,D,J,K⟩:=a;obtain ⟨o,c,t,G,H,E,C,F⟩:=m;unfold pa1 at h;have h0:=(pdu (by decide) (by decide) h).2;obtain ⟨f,h1⟩:=pdu (itoa_no32 _) (itoa_no32 _) h0;obtain ⟨k,u⟩:=pdu (itoa_no32 _) (itoa_no32 _) h1;obtain ⟨w,q⟩:=pdu (itoa_no32 _) (itoa_no32 _) u;obtain ⟨e,g⟩:=pdu (pbx _) (pbx _) q;obtain ⟨v,d⟩:=pdu (pbx _) (pbx _) g;obtain ⟨j,r⟩:=pdu (pbx _) (pbx _) d;exact ⟨paQ n o f,paQ z c k,paQ p t w,pdO e,pdO v,pdO j,pcI r⟩
theorem pop {x y} (a:x.ok) (c:y.ok) (h:pcg x=pcg y):x=y:=by
 obtain ⟨p,h0⟩:=pdu (peN _ _) (peN _ _) h;obtain ⟨f,o,k,e,g,j,d⟩:=poo a c h0;obtain ⟨n,m⟩:=poc a.2.2.2.2.2.2.1 a.2.2.2.2.2.2.2 c.2.2.2.2.2.2.1 c.2.2.2.2.2.2.2 p
 cases x;cases y
 simp only at f o k e g j d n m;subst f o k e g j d n m;rfl
def rcOk (l:List UInt8) (x:Rc) (ok:Bool):Prop:=x.ok/\(ok=true->l=pcg x)/\(ok=false->x=Rc.zero/\∀ y:Rc,y.ok->l≠pcg y)
theorem pky {l a b p q} (h:rcOk l a p) (k:rcOk l b q):a=b/\p=q:=by
 cases p with
 | true =>
  have e:=h.2.1 rfl
  cases q with
  | true=>exact ⟨pop h.1 k.1 (e.symm.trans (k.2.1 rfl)),rfl⟩
  | false=>exact absurd e ((k.2.2 rfl).2 a h.1)
 | false =>
  cases q with
  | true=>exact absurd (k.2.1 rfl) ((h.2.2 rfl).2 b k.1)
  | false=>exact ⟨(h.2.2 rfl).1.trans (k.2.2 rfl).1.symm,rfl⟩
def rcV (x:Rc):List Value:=[.int .i64 x.kiosk,.int .i64 x.serial,.string x.draw,.int .i64 x.seen] ++ (byteVals x.out ++ (byteVals x.hash ++ (byteVals x.prev ++ [.int .i64 x.r,.int .i64 x.s])))
theorem paM {x} (h:x.ok):(rcV x).length=102:=by
 obtain ⟨_,_,_,h1,a,c,_⟩:=h;simp [rcV,pak,h1,a,c]
theorem psj (x):∀ v∈rcV x,v.oneCell'=true:=by
 intro v a;unfold rcV byteVals at a;simp only [yq,yo,zh,zy,uY] at a;rcases a with (rfl | rfl | rfl | rfl) | ⟨b,_,rfl⟩ | ⟨b,_,rfl⟩ | ⟨b,_,rfl⟩ | rfl | rfl <;> rfl
end Go.Proofs.YtkhjolbbpdaplaaGreatDoor

namespace Go.Proofs.YtkhjolbbpdaplaaGreatDoor
set_option maxHeartbeats 2000000
open Go.RowKit Go.Proofs.Tryz
set_option maxRecDepth 100000
def AB (T:TypeId) (w:World) (g:Nat) (c:List UInt8):Prop:=w.heap[g]? =some (.cells (byteVals c).toArray T (0,0))
theorem AB.upd {T w w' g c} (h:AB T w g c) (u:Uq w w'):AB T w' g c:=by
 unfold AB at h ⊢;rw [u.block _ (xq.1 h).1 (by simp)];exact h
theorem AB.cell {T w g c} (h:AB T w g c) {j b} (a:c[j]? =some b):w.cell? ⟨g,j,none⟩=some (.int .u8 (b.toNat:Int)):=by
 rw [xa w g j _ _ _ h,xD];simp [byteVals,a,pbj]
theorem AB.frozen {T w g c} (h:AB T w g c) (j):w.frozen? ⟨g,j,none⟩=false:=xp _ _ _ _ _ h
theorem AB.set {T w g c} (h:AB T w g c) (j b):AB T (w.setCell ⟨g,j,none⟩ (.int .u8 (b.toNat:Int))) g (c.set j b):=by
 have:=xg w g j _ _ (.int .u8 (b.toNat:Int)) h;unfold AB;rw [this];congr 2;simp [byteVals,List.map_set,pbj]
theorem AB.text {T w g c} (h:AB T w g c) (z) (a:bs z=c) (k):(convert 95 9 (.slice (some ⟨g,0,none⟩) c.length k)).run prog w=.ok (.string z) w:=by
 have:=pbO (P:=prog) w 95 9 5 underlying95 underlying5 underlying9 g _ _ T h c (xy (by simp [byteVals])) 0 c.length k (by omega);rw [zN,xy (xj _)] at this;rw [this,<-a];rfl
theorem paa {w w'} {g:Nat} {o} (h:w.heap[g]? =some o) (u:Uq w w'):w'.heap[g]? =some o:=by
 rw [u.block _ (xq.1 h).1 (by simp)];exact h
theorem psk (A m) (x y:UInt8):((A ++ List.replicate (m+2) 0).set A.length x).set (A.length+1) y=(A ++ [x,y]) ++ List.replicate m 0:=by
 rw [ya _ _ (xj _),yC,yL,yL,xX,ya _ _ (by omega),show A.length+1 - A.length=1 by omega];simp
theorem pf7 (l b):hexL (l ++ [b])=hexL l ++ [hexD (b.toNat / 16),hexD (b.toNat % 16)]:=by rw [plK];rfl
theorem pqN {l:List UInt8} (f:l.length=32) {i b} (a:l[i]? =some b):((hexL (l.take i) ++ List.replicate (64 - 2 * i) 0).set (2 * i) (hexD (b.toNat / 16))).set (2 * i+1) (hexD (b.toNat % 16))=hexL (l.take (i+1)) ++ List.replicate (64 - 2 * (i+1)) 0:=by
 have e:=(xe.1 a).1;have c:l.take (i+1)=l.take i ++ [b]:=by rw [xN,a];rfl
 have d:(hexL (l.take i)).length=2 * i:=by rw [paO,xQ];omega
 have:=psk (hexL (l.take i)) (64 - 2 * (i+1)) (hexD (b.toNat / 16)) (hexD (b.toNat % 16));rw [d,show 64 - 2 * (i+1)+2=64 - 2 * i by omega] at this;rw [this,c,pf7]
theorem ptu:∀ n:Nat,n<256->Go.bits .and .u8 (n:Int) 15=((n % 16:Nat):Int):=by decide +kernel
def hexS:ByteArray:=⟨#[48,49,50,51,52,53,54,55,56,57,97,98,99,100,101,102]⟩
theorem pqO:∀ n,n<16->hexS[n]? =some (hexD n):=by decide
theorem pdv (n:Nat) (c:n<16) (w):(Instr.index 9 (.string ⟨#[48,49,50,51,52,53,54,55,56,57,97,98,99,100,101,102]⟩) (.int .u8 (n:Int))).run prog w=.ok (.int .u8 ((hexD n).toNat:Int)) w:=by
 have a:prog.underlying 9=some .string:=underlying9;have h0:(0:Int)<=(n:Int):=by omega
 simp only [Instr.index,asIntOf,yT,zW,yr,run_underlying a w];rw [xH h0,xW];have:=pqO n c;unfold hexS at this;rw [this];rfl
theorem pgR (C) (k:Nat) (f:k<32) (v) (a:C[k]? =some v) (w):(Instr.index 60 (.agg C) (.int .i64 (k:Int))).run prog w=.ok v w:=by
 have c:prog.underlying 60=some (.array 32 5):=underlying60;have d:(sizeOf 5).run prog w=.ok 1 w:=by kernel_rfl
 have e:(isAgg 5).run prog w=.ok false w:=by kernel_rfl
 have h0:(0:Int)<=(k:Int)/\(k:Int)<((32:Nat):Int):=by omega
 simp only [Instr.index,asIntOf,yT,zW,yr,run_underlying c w];rw [xH h0];simp only [part,yT,zW,yr,d,e,Bool.false_eq_true,if_false,zf,xW,a]
theorem pc5 (l) (o:l.length=32) (w):Calls prog 110 #[.agg (byteVals l).toArray] w (MkS (hexL l) w):=by
 obtain ⟨C,m⟩:=az ((byteVals l).toArray);rw [<-m];have M:C.size=32:=by rw [m];simp [byteVals,o]
 have S:Fi 60 C:=by show _=_;rw [M];kernel_rfl
 have P:=ah m;clear m;have K:Hid (((w.alloc (.cells C 60)).alloc (.cells (byteVals (List.replicate 64 0)).toArray 216)).heap[w.heap.size]? =some (.cells C 60 (0,0))):=paa (xi w _) (uR.alloc _);go_in;go_wp2_with (refine bL K underlying60 S ?_)
 go_loopw [4,5,7] (fun _ _ i wr=>∃ k:Nat,i=.int .i64 (k:Int)/\k<=32/\Hid (AB 216 wr (w.heap.size+1) (hexL (l.take k) ++ List.replicate (64 - 2 * k) 0))/\Hid (Uq w wr)) (fun _ _ i _=>32 - (intOf i).toNat)
 case atStart =>
  refine ⟨0,rfl,xu _,?_,(uR.alloc _).alloc _⟩;have h:=xi (w.alloc (.cells C 60)) (.cells (byteVals (List.replicate 64 0)).toArray 216);rw [yI] at h;exact h
 case round =>
  obtain ⟨k,rfl,Q,c,D⟩:=hrel;by_cases v:k<32
  · obtain ⟨b,q⟩:∃ b,l[k]? =some b:=⟨_,xd (by omega)⟩
    have J:C[k]? =some (.int .u8 (b.toNat:Int)):=by rw [P.out,xD];simp [byteVals,q,pbj]
    have H:b.toNat<256:=b.toNat_lt;have R:=c.out.frozen (2 * k);have G:=c.out.frozen (2 * k+1);have i0:(0:Int)<=(k:Int):=by omega
    have Y:(k:Int)<32:=by omega
    have aa:=pgR C k v _ J;obtain ⟨j,f⟩:∃ j,j=2 * k:=⟨_,rfl⟩
    obtain ⟨a,g⟩:=az (j+1);have W:IntKind.i64.wrap (2 * (k:Int))=(j:Int):=by rw [zs _ (by omega)];omega
    have e2:IntKind.i64.wrap ((j:Int)+1)=(a:Int):=by rw [zs _ (by omega)];omega
    have Z:(0:Int)<=(j:Int):=by omega
    have b1:(j:Int)<64:=by omega
    have b2:(0:Int)<=(a:Int):=by omega
    have b3:(a:Int)<64:=by omega
    rw [<-f] at R G;rw [<-g] at G;obtain ⟨e,x⟩:=az (b.toNat / 16);obtain ⟨d,n⟩:=az (b.toNat % 16);have X:(b.toNat:Int) / 16=(e:Int):=by omega
    have v1:Go.bits .and .u8 (b.toNat:Int) 15=(d:Int):=by rw [n];exact ptu _ H
    have y0:=pdv e (by omega);have y1:=pdv d (by omega);have c0:wr.cell? ⟨w.heap.size+1,j,none⟩=some (.int .u8 0):=c.out.cell (b:=0) (by rw [f,xC (by rw [paO,xQ];omega),zB,xH (by rw [paO,xQ];omega)]);have c1:wr.cell? ⟨w.heap.size+1,a,none⟩=some (.int .u8 0):=c.out.cell (b:=0) (by rw [g,f,xC (by rw [paO,xQ];omega),zB,xH (by rw [paO,xQ];omega)]);have n0:¬ j=a:=by omega
    have n1:¬ a=j:=by omega
    have T:=ah (xf f (xf g (xf x n)));have U:=ah q;clear f g x n q;have O:Hid (AB 216 ((wr.setCell ⟨w.heap.size+1,j,none⟩ (.int .u8 ((hexD e).toNat:Int))).setCell ⟨w.heap.size+1,a,none⟩ (.int .u8 ((hexD d).toNat:Int))).drew (w.heap.size+1) (hexL (l.take (k+1)) ++ List.replicate (64 - 2 * (k+1)) 0)):=by
     have h:=((c.out.set j (hexD e)).set a (hexD d)).upd uR.drew;obtain ⟨E,F,y,B⟩:=T.out;rw [F,E,y,B,pqN o U.out] at h;rw [F,E,y,B];exact h
    have N:Hid (Uq w ((wr.setCell ⟨w.heap.size+1,j,none⟩ (.int .u8 ((hexD e).toNat:Int))).setCell ⟨w.heap.size+1,a,none⟩ (.int .u8 ((hexD d).toNat:Int))).drew) :=
     ((D.out.setNew (p:=⟨w.heap.size+1,j,none⟩) (by show w.heap.size<=w.heap.size+1;omega) _).setNew (p:=⟨w.heap.size+1,a,none⟩) (by show w.heap.size<=w.heap.size+1;omega) _).drew
    go_wp2_with fail;go_region_held3 (fun _=>True) (first | trivial | assumption) (fail)
    all_goals
     go_wp2_with fail;exact ⟨⟨k+1,by go_num,by omega,O,N⟩,by simp [intOf];omega⟩
  · obtain rfl:k=32:=by omega
    obtain ⟨z,r⟩:∃ z:ByteArray,bs z=hexL l:=⟨⟨(hexL l).toArray⟩,rfl⟩
    have u:=c.out.text z (by rw [r,xy (by omega)];simp) 64;rw [xy (by omega)] at u;have t:(hexL l ++ List.replicate (64 - 2 * 32) 0).length=64:=by simp [paO,o]
    rw [t] at u;have A:=ah r;clear r v Q c t;go_wp2;go_ret;refine ⟨z,A,?_,rfl,D.out⟩;rw [<-A.out,pac];exact xj _
theorem pdw (n:Nat) (a:n<16) (w):(Instr.slice 9 (.string ⟨#[48,49,50,51,52,53,54,55,56,57,97,98,99,100,101,102]⟩) (some (.int .u8 (n:Int))) (some (.int .u8 ((n+1:Nat):Int))) none).run prog w=.ok (.string (ByteArray.mk #[hexD n])) w:=by
 have h:n=0\/n=1\/n=2\/n=3\/n=4\/n=5\/n=6\/n=7\/n=8\/n=9\/n=10\/n=11\/n=12\/n=13\/n=14\/n=15:=by omega
 rcases h with rfl | rfl | rfl | rfl | rfl | rfl | rfl | rfl | rfl | rfl | rfl | rfl | rfl | rfl | rfl | rfl
 all_goals (show _=_;first | kernel_rfl | rfl)
theorem pcB (l) (J:l.length=32) (w):Calls prog 148 #[.agg (byteVals l).toArray] w (MkS (hexL l) w):=by
 obtain ⟨C,g⟩:=az ((byteVals l).toArray);have v:Hid (AB 60 (w.alloc (.cells C 60)) w.heap.size l):=by rw [g];exact xi _ _
 rw [<-g];clear g;go_in;go_wp2;go_loopw [3,4] (fun s i wr=>∃ (k:Nat) (d:ByteArray),s=.string d/\i=.int .i64 (k:Int)/\k<=32/\d.size=2 * k/\Hid (bs d=hexL (l.take k))/\Hid (AB 60 wr w.heap.size l)/\Hid (Uq w wr)) (fun _ i _=>32 - (intOf i).toNat)
 case atStart=>exact ⟨0,ByteArray.empty,rfl,rfl,xu _,rfl,rfl,v,uR.alloc _⟩
 case round =>
  obtain ⟨k,d,rfl,rfl,B,t,q,r,p⟩:=hrel;by_cases u:k<32
  · obtain ⟨b,f⟩:∃ b,l[k]? =some b:=⟨_,xd (by omega)⟩
    have N:b.toNat<256:=b.toNat_lt;have cb:=r.out.cell f;obtain ⟨c,o⟩:=az (b.toNat / 16);obtain ⟨a,n⟩:=az (b.toNat % 16);obtain ⟨D,h⟩:=az (c+1);obtain ⟨H,j⟩:=az (a+1);have M:(b.toNat:Int).tdiv 16=(c:Int):=by rw [xP (by omega)];omega
    have U:(b.toNat:Int).tmod 16=(a:Int):=by rw [xO (by omega)];omega
    have P:IntKind.u8.wrap ((c:Int)+1)=(D:Int):=by unfold IntKind.wrap;simp [IntKind.bits,IntKind.signed];omega
    have R:IntKind.u8.wrap ((a:Int)+1)=(H:Int):=by unfold IntKind.wrap;simp [IntKind.bits,IntKind.signed];omega
    have Q:IntKind.u8.wrap (c:Int)=(c:Int):=by unfold IntKind.wrap;simp [IntKind.bits,IntKind.signed];omega
    have T:IntKind.u8.wrap (a:Int)=(a:Int):=by unfold IntKind.wrap;simp [IntKind.bits,IntKind.signed];omega
    have F:=pdw c (by omega);have E:=pdw a (by omega);rw [<-h] at F;rw [<-j] at E;have S:(0:Int)<=(k:Int):=by omega
    have O:(k:Int)<32:=by omega
    have y:Hid (bs (d ++ ByteArray.mk #[hexD c] ++ ByteArray.mk #[hexD a])=hexL (l.take (k+1))):=by
     show _=_;have A:l.take (k+1)=l.take k ++ [b]:=by rw [xN,f];rfl
     rw [A,pf7,pae,pae,q.out,<-o,<-n];simp [bs]
    have x:(d ++ ByteArray.mk #[hexD c] ++ ByteArray.mk #[hexD a]).size=2 * (k+1):=by
     rw [xT,xT,t];show 2 * k+1+1=_;omega
    have z:wr.drew.cell? ⟨w.heap.size,k,none⟩=some (.int .u8 (b.toNat:Int)):=cb;have W:¬ 9223372036854775807<2 * k+1+1:=by omega
    have K:¬ 9223372036854775807<2 * k+1:=by omega
    clear o n h j f;go_wp2_with fail;go_region_held3 (fun G=>G.cell? ⟨w.heap.size,k,none⟩=some (.int .u8 (b.toNat:Int))) (first | with_reducible exact z | with_reducible assumption) (fail);go_wp2_with fail;exact ⟨⟨k+1,_,rfl,by go_num,by omega,x,y,r.out.upd uR.drew,p.out.drew⟩,by simp [intOf];omega⟩
  · obtain rfl:k=32:=by omega
    have e:=q.out;rw [xy (by omega)] at e;have m:=ah e;clear e u B;go_wp2;go_ret;refine ⟨d,m,?_,rfl,p.out⟩;rw [<-m.out,pac];exact xj _
def dv (c:UInt8):UInt8:=UInt8.ofNat ((digH c).getD 0)
def pbt:List UInt8->List UInt8
 | []=>[]
 | [a]=>[dv a]
 | a :: b :: r=>UInt8.ofNat (16 * (dv a).toNat+(dv b).toNat) :: pbt r
theorem pcq:∀ t r,t.length % 2=0->pbt (t ++ r)=pbt t ++ pbt r
 | [],r,_=>rfl
 | [a],r,h=>by simp at h
 | a :: b :: t,r,h=>by
  rw [yA,yA,pbt,pbt,pcq t r (by simp at h;omega),yA]
theorem pby:∀ t,(pbt t).length=(t.length+1) / 2
 | []=>rfl
 | [a]=>by simp [pbt]
 | a :: b :: t=>by rw [pbt,xF,pby t,xF,xF];omega
def pf8 (t:List UInt8):Prop:=∀ c∈t,∃ n,digH c=some n
theorem piY {c n} (h:digH c=some n):(dv c).toNat=n/\n<16:=by
 have:=(pf6 h).1;unfold dv;rw [h];exact ⟨by show (UInt8.ofNat n).toNat=n;rw [yn];omega,this⟩
theorem pha:∀ t,t.length % 2=0->pf8 t->hexL (pbt t)=t
 | [],_,_=>rfl
 | [a],h,_=>by simp at h
 | a :: b :: t,h,hd=>by
  obtain ⟨n,f⟩:=hd a (by simp)
  obtain ⟨m,d⟩:=hd b (by simp)
  obtain ⟨g,o⟩:=piY f
  obtain ⟨k,p⟩:=piY d
  rw [pbt,hexL,pha t (by simp at h;omega) (fun c j=>hd c (by simp [j])),g,k]
  have e:(UInt8.ofNat (16 * n+m)).toNat=16 * n+m:=by rw [yn];omega
  rw [e,show (16 * n+m) / 16=n by omega,show (16 * n+m) % 16=m by omega,(pf6 f).2,(pf6 d).2]
theorem pec:∀ l,pf8 (hexL l)
 | [],c,h=>by simp [hexL] at h
 | b :: r,c,h=>by
  have a:b.toNat<256:=b.toNat_lt
  rw [hexL,yo,yo] at h
  rcases h with rfl | rfl | h
  · exact ⟨_,pcO _ (by omega)⟩
  · exact ⟨_,pcO _ (by omega)⟩
  · exact pec r c h
theorem poq {t} (h:t.length=64) (a:pf8 t):pol t (pbt t) true :=
 ⟨by rw [pby,h],fun _=>(pha t (by omega) a).symm,fun h=>by cases h⟩
theorem por {t} (h:t.length≠64):pol t (List.replicate 32 0) false :=
 ⟨by simp,(fun h=>by cases h),fun _=>⟨rfl,fun c a e=>h (by rw [e,paO,a])⟩⟩
theorem pot {t c} (f:c∈t) (h:digH c=none):pol t (List.replicate 32 0) false :=
 ⟨by simp,(fun h=>by cases h),fun _=>⟨rfl,fun d g e=>by
  obtain ⟨n,a⟩:=pec d c (by rw [<-e];exact f)
  rw [h] at a
  cases a⟩⟩
def ptv (l:List UInt8) (w:World) (e:Ending) (w':World):Prop:=∃ (h:List UInt8) (ok:Bool),Hid (pol l h ok)/\e=.returned (.tuple #[.agg (byteVals h).toArray,.bool ok])/\Upd [] [] w w'
theorem pou {t:List UInt8} {m c} (d:t[2 * m]? =some c) (h:2 * m<64):(pbt (t.take (2 * m)) ++ List.replicate (32 - m) 0).set m (dv c)=pbt (t.take (2 * m+1)) ++ List.replicate (32 - (m+1)) 0:=by
 have g:=(xe.1 d).1;have a:(t.take (2 * m)).length=2 * m:=by rw [xQ];omega
 have e:t.take (2 * m+1)=t.take (2 * m) ++ [c]:=by rw [xN,d];rfl
 have f:(pbt (t.take (2 * m))).length=m:=by rw [pby,a];omega
 rw [e,pcq _ _ (by rw [a];omega),ya _ _ (by omega),f,yC,show 32 - m=(32 - (m+1))+1 by omega,yL,xX,xG];rfl
theorem pqP {t:List UInt8} {m a c} (j:t[2 * m]? =some a) (f:t[2 * m+1]? =some c):(pbt (t.take (2 * m+1)) ++ List.replicate (32 - (m+1)) 0)[m]? =some (dv a)/\(pbt (t.take (2 * m+1)) ++ List.replicate (32 - (m+1)) 0).set m (UInt8.ofNat (16 * (dv a).toNat+(dv c).toNat))=pbt (t.take (2 * m+1+1)) ++ List.replicate (32 - (m+1)) 0:=by
 have k:=(xe.1 f).1;have d:(t.take (2 * m)).length=2 * m:=by rw [xQ];omega
 have e:t.take (2 * m+1)=t.take (2 * m) ++ [a]:=by rw [xN,j];rfl
 have h:t.take (2 * m+1+1)=t.take (2 * m) ++ [a,c]:=by rw [xN,f,e];simp
 have g:(pbt (t.take (2 * m))).length=m:=by rw [pby,d];omega
 rw [h,e,pcq _ _ (by rw [d];omega),pcq _ _ (by rw [d];omega),xG,xG];refine ⟨?_,?_⟩
 · rw [xC (by omega),g,yC];rfl
 · rw [ya _ _ (by omega),g,yC];rfl
theorem pkz (c):(Lib.indexByte [48,49,50,51,52,53,54,55,56,57,97,98,99,100,101,102] c=match digH c with | some n=>(n:Int) | none=>-1):=by
 have:∀ n:Fin 256,(Lib.indexByte [48,49,50,51,52,53,54,55,56,57,97,98,99,100,101,102] (UInt8.ofNat n.val)=match digH (UInt8.ofNat n.val) with | some n=>(n:Int) | none=>-1):=by decide +kernel
 have h:=this ⟨c.toNat,c.toNat_lt⟩;simp only [UInt8.ofNat_toNat] at h;exact h
theorem pfC:∀ a:Nat,a<16->∀ b:Nat,b<16->Go.bits .or .u8 ((16 * a:Nat):Int) (b:Int)=((16 * a+b:Nat):Int):=by
 have:∀ a:Fin 16,∀ b:Fin 16,Go.bits .or .u8 ((16 * a.val:Nat):Int) (b.val:Int)=((16 * a.val+b.val:Nat):Int):=by decide +kernel
 exact fun a d b c=>this ⟨a,d⟩ ⟨b,c⟩
theorem results_row_tmp {P k p u a} (h:k.results=#[.cell p a,.tmp u]) (c w g t cs f d)
 (q:c.getD p undef=.pointer (some ⟨g,0,none⟩)) (m:w.heap[g]? =some (.cells cs t f))
 (o:P.underlying a=some d) (v:d.isRow=true) (j:(P.info? a).map (·.size)=some cs.size) :
 (results k c).run P w=.ok (.tuple #[.agg cs,c.getD u undef]) w:=by
 have r:(loadVar a ⟨g,0,none⟩).run P w=.ok (.agg cs) w:=by
  cases d with
  | struct fs=>exact zu w g t a cs f _ m o rfl j
  | array n e=>exact zu w g t a cs f _ m o rfl j
  | _=>cases v
 rw [results_cell_tmp h,q];simp only [asAddr,zW,yr,r]
theorem bF {P:Program} {e:Func} {R:Ending->World->Prop} {p u:Tmp} {a:Act} {w:World} {g:Nat} {cs:Array Value} {t c:TypeId} {f:Nat × Nat} {d:TypeDesc} (n:w.heap[g]? =some (.cells cs t f)) (o:P.underlying c=some d) (k:(P.info? c).map (·.size)=some cs.size) (m:R (.returned (.tuple #[.agg cs,a.tmps.getD u undef])) w) (h:e.results=#[.cell p c,.tmp u]:=by exact rfl)
 (j:a.tmps.getD p undef=.pointer (some ⟨g,0,none⟩):=by exact rfl) (q:d.isRow=true:=by exact rfl) (hq:a.defers=[]:=by exact rfl):bodyPost P e R .ret a w :=
 xI (results_row_tmp h _ _ g t cs f d j n o q k) hq m
theorem pqQ (x) (n:Nat) (w) (r:1<=n/\n<=31) :
 Calls prog 284 #[.int .u32 (x.toNat:Int),n] w (pks (.int .u32 ((rotR x n).toNat:Int)) w):=by
 obtain ⟨g,o,d⟩:∃ l:W32,(x.toNat:Int) / 2 ^ n=(l.toNat:Int)/\Hid (l=x >>> n):=⟨_,pmL _ _,rfl⟩
 obtain ⟨l2,h,a⟩:∃ l:W32,(x.toNat:Int) * 2 ^ (32 - n) % 4294967296=(l.toNat:Int)/\Hid (l=x <<< (32 - n)):=⟨_,pmK _ _,rfl⟩
 obtain ⟨j,k,c⟩:∃ l:W32,bits .or .u32 (g.toNat:Int) (l2.toNat:Int)=(l.toNat:Int)/\Hid (l=g ||| l2):=⟨_,or_w _ _,rfl⟩
 obtain ⟨m,f⟩:∃ m:Nat,m=32 - n:=⟨_,rfl⟩
 rw [<-f] at h;have q:IntKind.i64.wrap (32 - (n:Int))=(m:Int):=by rw [pam (by omega) (by omega)];omega
 have p:m<=31:=by omega
 have e:rotR x n=j:=by rw [rotR,c.out,d.out,a.out]
 rw [e];clear e f d a c;go_in;go_wp2_with fail;go_quiet (fail);go_wp2;go_ret;exact ⟨nq,rfl,rfl⟩
def szOf:Value->Nat
 | .string r=>r.size
 | _=>0
theorem prT (r):szOf (.string r)=r.size:=rfl
theorem pmY (s w) (U:s.size<=281474976710656) :
 Calls prog 243 #[.string s] w (fun e w'=>∃ r,Hid (bs r=padS (bs s))/\e=.returned (.string r)/\Uq w w'):=by
 go_in;go_wp2;go_loop [3] (fun t=>∃ (k:Nat) (r:ByteArray),t=.string r/\k<=pcz s.size/\Hid (bs r=bs s ++ [0x80] ++ List.replicate k 0)/\r.size=s.size+1+k) (fun t=>pcz s.size+s.size+1 - szOf t)
 case atStart=>
  refine ⟨0,_,rfl,xu _,?_,?_⟩
  · show _=_;rw [pae];simp;rfl
  · simp [ByteArray.size_append];rfl
 case round =>
  obtain ⟨k,r,rfl,D,a,f⟩:=hrel;have c:pcz s.size=(119 - s.size % 64) % 64:=rfl;by_cases g:k<pcz s.size
  · have p:(((r.size % 64:Nat):Int) != 56)=true:=by
     rw [uh];omega
    have E:=ah c;have d:=ah f;clear c f;have h:r.size<=400000000000000:=by have:=d.out;have:=E.out;omega
    have M:Hid (bs (r ++ ⟨#[0]⟩)=bs s ++ [0x80] ++ List.replicate (k+1) 0):=by
     show _=_;rw [pae,a.out,uf,xG];rfl
    have v:Hid ((r ++ ⟨#[0]⟩:ByteArray).size=r.size+1):=by
     show _=_;rw [xT];rfl
    go_wp2_with fail;refine ⟨⟨k+1,_,rfl,by omega,M.out,by rw [v.out,d.out];omega⟩,?_⟩;rw [prT,prT,v.out,d.out];omega
  · have p:(((r.size % 64:Nat):Int) != 56)=false:=by
     have:((r.size % 64:Nat):Int)=56:=by omega
     rw [this];rfl
    have h:r.size<=400000000000000:=by omega
    obtain rfl:k=pcz s.size:=by omega
    have E:=ah c;have d:=ah f;clear c f g;obtain ⟨N,C⟩:=az (s.size * 8);have K:(s.size:Int) * 8=(N:Int):=by omega
    have Y:N<=18446744073709551615:=by omega
    obtain ⟨B,n⟩:=az (bs s ++ [0x80] ++ List.replicate (pcz s.size) 0);rw [<-n] at a;have T:=ah n;have Q:=ah C;clear n C;go_wp2_with fail;clear K;have A:=a;clear a d;go_loopw [3,5] (fun t i wr=>∃ (k:Nat) (z:Int) (r:ByteArray),i=.int .i64 z/\z=7 - (k:Int)/\k<=8/\t=.string r/\Hid (bs r=B ++ (len8 N).take k)/\r.size<=400000000000000+k/\Uq w wr) (fun _ i _=>(intOf i+1).toNat)
    case atStart=>exact ⟨0,7,r,rfl,rfl,xu _,rfl,by rw [List.take_zero,yl];exact A.out,by omega,Upd.refl _ _⟩
    case round =>
     clear A h p;obtain ⟨k,z,R,rfl,c,D,rfl,a,h,F⟩:=hrel;by_cases g:k<8
     · obtain ⟨m,rfl⟩:∃ m:Nat,z=(m:Int):=⟨7 - k,by omega⟩
       obtain ⟨b,j⟩:=az (UInt8.ofNat (N / 2 ^ (8 * m)));have hb1:(N:Int) / 2 ^ (8 * m) % 256=(b.toNat:Int):=by
        have:(UInt8.ofNat (N / 2 ^ (8 * m))).toNat=N / 2 ^ (8 * m) % 256:=by simp
        rw [j,this];simp
       have W:m<=7:=by omega
       have J:=ah j;have q:=ah c;have y:(wr.alloc (.cells #[.int .u8 (b.toNat:Int)] 5)).heap[wr.heap.size]? =some (.cells #[.int .u8 (b.toNat:Int)] 5 (0,0)):=xi _ _;have o:=pbO (P:=prog) (wr.alloc (.cells #[.int .u8 (b.toNat:Int)] 5)) 95 9 5 underlying95 underlying5 underlying9 wr.heap.size _ _ _ y [b] rfl 0 1 1 (by simp);have H:=ah o;have G:=F.alloc (.cells #[.int .u8 (b.toNat:Int)] 5);clear j c o y;go_wp2_with fail;rw [H.out];have u:strV (([b].drop 0).take 1)=.string ⟨#[b]⟩:=rfl;rw [u];have h1:(ByteArray.mk #[b]).size=1:=rfl;have X:(ByteArray.mk #[b]).size<=1:=xj _;clear h1 u;go_wp2_with fail;refine ⟨⟨k+1,_,_,rfl,?_,by omega,rfl,?_,?_,G⟩,?_⟩
       · have:=q.out;omega
       · show _=_;rw [pae,a.out,xG];have O:(len8 N).take (k+1)=(len8 N).take k ++ [b]:=by
          rw [zn (by rw [pau];omega)];congr 1;rw [J.out];have:=q.out;have S:m=7 - k:=by omega
          simp [len8,S]
         rw [O];rfl
       · rw [xT];omega
       · first | (simp [intOf];done) | (simp [intOf];omega)
     · obtain rfl:z=-1:=by omega
       have x:k=8:=by omega
       rw [x,xy (by rw [pau];omega)] at a;clear g c D x;go_wp2;go_ret;refine ⟨R,?_,rfl,F⟩;show _=_;rw [a.out,T.out,padS,Q.out,pac]
end Go.Proofs.YtkhjolbbpdaplaaGreatDoor
