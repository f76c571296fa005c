import Derived.Test.YtkgfanibfkdbfaaGreatDoorLPrintsY6
set_option maxRecDepth 100000
set_option maxHeartbeats 4000000
namespace Go.Proofs.YtkgfanibfkdbfaaGreatDoor
open Go.Proofs.Tryz
section
open Go.Eng Go.Pc Go
open Go.Xp hiding B C9
open Go.Ty (Ty Vr eqT tyV I7 PrOk VOk encV D2 M8 D3 eqI a2J a3c)
open Go.Lx (encB encB_len)
abbrev prX(b:Nat)(p:Pr):Res:=.pt b (.cells (prE p).toArray 45 (0,0))
theorem S7{m:View}{h:List Res}{nm:B}{ch:Ex}{tg ex:Sli Ex}{pn:Sli Int}{sp:Sp}(hn:nm.length<=Big)(hc:EOk m h ch)(ht:LOk m h tg)(he:LOk m h ex)(hpn:Rd m h pn.a pn.l.length pn.c 1 (fl a3G pn.l))(hpw:∀x∈pn.l,-9223372036854775808<=x/\x<=9223372036854775807)(hs:SK m h sp) :
 POk m h (K1 nm ch tg ex pn sp):=
 .mk ⟨by show 0<=(0:Int)/\(0:Int)<=255;decide,hn,hc,ht,he,Nat.zero_le _,a2m m h,a2m m h,Rd.nilF guE 23 m h,λ_ hx=>(List.not_mem_nil hx).elim,Rd.nilF prE 42 m h,hpn,hpw,hs.o⟩ λx hx=>by cases hx with
  |l q=>exact(List.not_mem_nil q).elim
  |s q=>exact hs.b x q
  |g q _=>exact(List.not_mem_nil q).elim
theorem c0r(m:View)(h:List Res):POk m h R3:=S7 (by decide) (a2m m h) (a8i m h) (a8i m h) (Rd.nilF a3G 1 m h) a4c (c8a m h)
theorem b9G(p:Pr)(h:List Res)(m:View)(hP:POk m h p):CT prog 84 [prV p] h m (A7 h (.bool (a0t p))):=by
 have hO:=hP.own;have v0:=View.le.refl m;have hn2:p.name.length<=9223372036854775807:=Nat.le_trans hO.n (by decide);have hsk:=c3f hP;have lz:=a8i m h;have ez:=a2m m h;have pz:Rd m h (B0:Sli Int).a (B0:Sli Int).l.length (B0:Sli Int).c 1 (fl a3G (B0:Sli Int).l):=Rd.nilF a3G 1 m h;have pf:=hO.pn;have pfm:=pf.mx;have pfl:=pf.le;have chE:∀h',h.Sublist h'->EOk m h' p.ch:=λh' hs=>hO.ch.mono hs
 refine cB [1,2,3,4,5,6,7,8,9,10,31,37,53,70,87,104,129,137,160,199,206,219,233,249] func84 λ_=>?_;refine xX λb1=>?_
 refine ZZ [1,1] ?_;refine xW λb3=>?_;refine ZZ [1,2,2,2,3,1,3] ?_;refine xG (S2 Et Ek) ?_;refine ZZ [1,1,1,0] ?_;refine kP1 [1,3,4,5,6,7,21] ?_;refine F4 KKh [1,3,4,5] rfl (λF' h'=>∃mo:Int,∃le:Int,(mo=(if(p.rep.name==[])=true then 16 else 1)/\le=(if(p.rep.name==[])=true then 0 else 1))/\F'=[(6,.int .i64 mo),(7,.int .i64 le)]/\prX b3 (K1 p.name p.ch p.tg p.ex p.pn p.sp)::prX b1 p::h=h') ?_ ?_;refine jE ?_;refine wc ?_ ?_<;>intro c21
 have c21n:(p.rep.name==[])=false:=by simpa using c21
 refine ZZ [1,1] ?_;refine WL.nil (B4 [(6,.int .i64 1),(7,.int .i64 1)] (h'':=prX b3 (K1 p.name p.ch p.tg p.ex p.pn p.sp)::prX b1 p::h) ?_ Su Sb ⟨1,1,(by rw[c21n];exact⟨rfl,rfl⟩),rfl,rfl⟩);exact Su;have c21n:(p.rep.name==[])=true:=by simpa using c21
 refine WC.skip (B4 [(6,.int .i64 16),(7,.int .i64 0)] (h'':=prX b3 (K1 p.name p.ch p.tg p.ex p.pn p.sp)::prX b1 p::h) ?_ Su Sb ⟨16,0,(by rw[c21n];exact⟨rfl,rfl⟩),rfl,rfl⟩);exact Su;rintro _ _ ⟨mo,le,hml,rfl,rfl⟩;refine B2 rfl ?_;refine ZZ [5,5,0] ?_;refine kP2 [1,3,4,5,6,7,8,9,31] ?_;refine F4 KKh [1,3] rfl (λF' h'=>∃fb:Bool,∃pb:Bool,∃gb:Bool,∃xp:Pr,(POk m h xp/\a0t p=((((fb&&pb)&&gb)&&O6 p.rep)&&H6 xp R3))/\F'=[(4,.bool fb),(8,.bool pb),(9,.bool gb)]/\prX b3 xp::prX b1 p::h=h') ?_ ?_;refine kP2 [1,3,4,5,6,7,8,9,31,32] ?_;refine F4 KKh [1,3,4,5,6,7,8,9,31] rfl (λF' h'=>∃b18:Bool,((b18=true↔(p.k=1\/p.k=2)))/\F'=[(32,.bool b18)]/\prX b3 (K1 p.name p.ch p.tg p.ex p.pn p.sp)::prX b1 p::h=h') ?_ ?_;refine jE ?_;refine wE ?_ ?_<;>intro c32
 refine WC.skip (B4 [(32,.bool ((p.k==1)))] (h'':=prX b3 (K1 p.name p.ch p.tg p.ex p.pn p.sp)::prX b1 p::h) ?_ Su Sb ⟨(p.k==1),⟨λ_=>.inl c32,λ_=>by simpa using c32⟩,rfl,rfl⟩);exact Su;refine kA2 ?_;refine WL.nil (B4 [(32,.bool ((p.k==2)))] (h'':=prX b3 (K1 p.name p.ch p.tg p.ex p.pn p.sp)::prX b1 p::h) ?_ Su Sb ⟨(p.k==2),⟨λhk=>.inr (by simpa using hk),λhk=>hk.elim (λh1=>absurd h1 c32) (λh1=>by simpa using h1)⟩,rfl,rfl⟩);exact Su;rintro _ _ ⟨b18,hb18,rfl,rfl⟩;refine B2 rfl ?_;refine jE ?_;refine wc ?_ ?_<;>intro c32
 have hk32:=hb18.1 c32;refine kA3 ?_;refine WL.nil (B4 [(4,.bool ((!(!(p.rep.name==[]))))),(8,.bool (((p.ll.length:Int)==0))),(9,.bool (((p.gl.length:Int)==0)))] (h'':=prX b3 (K1 p.name p.ch p.tg p.ex p.pn p.sp)::prX b1 p::h) ?_ Su Sb ⟨(!(!(p.rep.name==[]))),((p.ll.length:Int)==0),((p.gl.length:Int)==0),K1 p.name p.ch p.tg p.ex p.pn p.sp,⟨S7 hO.n hO.ch hO.tg hO.ex hO.pn hO.pw hsk,c7w hk32⟩,rfl,rfl⟩);exact Su;have nk32:¬(p.k=1\/p.k=2):=λq=>by rw[hb18.2 q]at c32;cases c32
 refine Z2 ?_;refine wE ?_ ?_<;>intro c37
 refine kA5 ?_;refine A4 (GU.t rfl rfl) (λhc=>⟨Ef,(E3 (Eg hc) Ek Ek),a6O _ _ _ p.tg.l 1 8 _ _ (hO.tg.rd.mono v0 Sb) (λx hx=>(hO.tg.ok x hx).mono Sb)⟩) Lb ?_;refine kA4 ?_;refine A4 (GU.t rfl rfl) (λhc=>⟨Ef,(E3 (Eg hc) Ek Ek),a4A _ _ _ p.ex.l 1 8 _ _ (hO.ex.rd.mono v0 Sb) (λx hx=>(hO.ex.ok x hx).mono Sb)⟩) Lb ?_;refine ZZ [2,2,2] ?_;refine WL.nil (B4 [(4,.bool ((((!(!(p.rep.name==[])))&&E7 p.tg.l 1 8 F5)&&E7 p.ex.l 1 8 F8))),(8,.bool (((p.ll.length:Int)==0))),(9,.bool (((p.gl.length:Int)==0)))] (h'':=prX b3 (K1 p.name p.ch B0 B0 p.pn p.sp)::prX b1 p::h) ?_ Su Sb ⟨(((!(!(p.rep.name==[])))&&E7 p.tg.l 1 8 F5)&&E7 p.ex.l 1 8 F8),((p.ll.length:Int)==0),((p.gl.length:Int)==0),K1 p.name p.ch B0 B0 p.pn p.sp,⟨S7 hO.n hO.ch lz lz hO.pn hO.pw hsk,c9E c37⟩,rfl,rfl⟩);exact Su;refine Z2 ?_;refine wE ?_ ?_<;>intro c53
 refine kA5 ?_;refine A4 (GU.t rfl rfl) (λhc=>⟨Ef,(E1 (Eg hc)),a1W p.ch (chE _ Sb)⟩) Lb ?_;refine kA4 ?_;refine A4 (GU.t rfl rfl) (λhc=>⟨Ef,(E3 (Eg hc) Ek Ek),a6O _ _ _ p.tg.l 1 8 _ _ (hO.tg.rd.mono v0 Sb) (λx hx=>(hO.tg.ok x hx).mono Sb)⟩) Lb ?_;refine ZZ [2,3,2] ?_;refine WL.nil (B4 [(4,.bool ((((!(!(p.rep.name==[])))&&F5 p.ch)&&E7 p.tg.l 1 8 F5))),(8,.bool (((p.ll.length:Int)==0))),(9,.bool (((p.gl.length:Int)==0)))] (h'':=prX b3 (K1 p.name A2 B0 p.ex p.pn p.sp)::prX b1 p::h) ?_ Su Sb ⟨(((!(!(p.rep.name==[])))&&F5 p.ch)&&E7 p.tg.l 1 8 F5),((p.ll.length:Int)==0),((p.gl.length:Int)==0),K1 p.name A2 B0 p.ex p.pn p.sp,⟨S7 hO.n ez lz hO.ex hO.pn hO.pw hsk,c8Z c53⟩,rfl,rfl⟩);exact Su;refine Z2 ?_;refine wE ?_ ?_<;>intro c70
 refine kA5 ?_;refine A4 (GU.t rfl rfl) (λhc=>⟨Ef,(E1 (Eg hc)),a1W p.ch (chE _ Sb)⟩) Lb ?_;refine kA4 ?_;refine A4 (GU.t rfl rfl) (λhc=>⟨Ef,(E3 (Eg hc) Ek Ek),a4A _ _ _ p.ex.l 1 9 _ _ (hO.ex.rd.mono v0 Sb) (λx hx=>(hO.ex.ok x hx).mono Sb)⟩) Lb ?_;refine ZZ [2,3,2] ?_;refine WL.nil (B4 [(4,.bool ((((!(!(p.rep.name==[])))&&F5 p.ch)&&E7 p.ex.l 1 9 F8))),(8,.bool (((p.ll.length:Int)==0))),(9,.bool (((p.gl.length:Int)==0)))] (h'':=prX b3 (K1 p.name A2 p.tg B0 p.pn p.sp)::prX b1 p::h) ?_ Su Sb ⟨(((!(!(p.rep.name==[])))&&F5 p.ch)&&E7 p.ex.l 1 9 F8),((p.ll.length:Int)==0),((p.gl.length:Int)==0),K1 p.name A2 p.tg B0 p.pn p.sp,⟨S7 hO.n ez hO.tg lz hO.pn hO.pw hsk,c8K c70⟩,rfl,rfl⟩);exact Su;refine Z2 ?_;refine wE ?_ ?_<;>intro c87
 refine kA5 ?_;refine A4 (GU.t rfl rfl) (λhc=>⟨Ef,(E1 (Eg hc)),a1W p.ch (chE _ Sb)⟩) Lb ?_;refine kA4 ?_;refine A4 (GU.t rfl rfl) (λhc=>⟨Ef,(E3 (Eg hc) Ek Ek),a4A _ _ _ p.ex.l 1 1 _ _ (hO.ex.rd.mono v0 Sb) (λx hx=>(hO.ex.ok x hx).mono Sb)⟩) Lb ?_;refine ZZ [2,3,2] ?_;refine WL.nil (B4 [(4,.bool ((((!(!(p.rep.name==[])))&&F5 p.ch)&&E7 p.ex.l 1 1 F8))),(8,.bool (((p.ll.length:Int)==0))),(9,.bool (((p.gl.length:Int)==0)))] (h'':=prX b3 (K1 p.name A2 p.tg B0 p.pn p.sp)::prX b1 p::h) ?_ Su Sb ⟨(((!(!(p.rep.name==[])))&&F5 p.ch)&&E7 p.ex.l 1 1 F8),((p.ll.length:Int)==0),((p.gl.length:Int)==0),K1 p.name A2 p.tg B0 p.pn p.sp,⟨S7 hO.n ez hO.tg lz hO.pn hO.pw hsk,c9H c87⟩,rfl,rfl⟩);exact Su;refine Z2 ?_;refine wE ?_ ?_<;>intro c104
 refine kA5 ?_;refine A4 (GU.t rfl rfl) (λhc=>⟨Ef,(E1 (Eg hc)),a1W p.ch (chE _ Sb)⟩) Lb ?_;refine ZZ [2,2] ?_;refine M6 Ef (Evs.cons Et (Evs.cons Ek (Evs.cons Ek (Evs.cons Ek (Evs.cons Ek Evs.nil))))) (a4q _ _ _ p.gl 1 16 7 7 _ _ (hO.g.mono v0 Sb) (λx hx=>(b1H hP x hx).mono Sb)) Lb ?_;refine ZZ [1,3] ?_;refine WL.nil (B4 [(4,.bool (((!(!(p.rep.name==[])))&&F5 p.ch))),(8,.bool (((p.ll.length:Int)==0))),(9,.bool (E7 p.gl 1 16 (gQ 7 7)))] (h'':=prX b3 (K1 p.name A2 p.tg p.ex p.pn p.sp)::prX b1 p::h) ?_ Su Sb ⟨((!(!(p.rep.name==[])))&&F5 p.ch),((p.ll.length:Int)==0),E7 p.gl 1 16 (gQ 7 7),K1 p.name A2 p.tg p.ex p.pn p.sp,⟨S7 hO.n ez hO.tg hO.ex hO.pn hO.pw hsk,c9Z c104⟩,rfl,rfl⟩);exact Su;refine kP2 [1,3,4,5,6,7,8,9,31,118] ?_
 refine F4 KKh [1,3,4,5,6,7,8,9,31] rfl (λF' h'=>∃b41:Bool,((b41=true↔(p.k=8\/p.k=9)))/\F'=[(118,.bool b41)]/\prX b3 (K1 p.name p.ch p.tg p.ex p.pn p.sp)::prX b1 p::h=h') ?_ ?_;refine jE ?_;refine wE ?_ ?_<;>intro c118
 refine WC.skip (B4 [(118,.bool ((p.k==8)))] (h'':=prX b3 (K1 p.name p.ch p.tg p.ex p.pn p.sp)::prX b1 p::h) ?_ Su Sb ⟨(p.k==8),⟨λ_=>.inl c118,λ_=>by simpa using c118⟩,rfl,rfl⟩);exact Su;refine kA2 ?_;refine WL.nil (B4 [(118,.bool ((p.k==9)))] (h'':=prX b3 (K1 p.name p.ch p.tg p.ex p.pn p.sp)::prX b1 p::h) ?_ Su Sb ⟨(p.k==9),⟨λhk=>.inr (by simpa using hk),λhk=>hk.elim (λh1=>absurd h1 c118) (λh1=>by simpa using h1)⟩,rfl,rfl⟩);exact Su;rintro _ _ ⟨b41,hb41,rfl,rfl⟩;refine B2 rfl ?_;refine jE ?_;refine wc ?_ ?_<;>intro c118
 have hk118:=hb41.1 c118;refine ZZ [1,9] ?_;refine WL.nil (B4 [(4,.bool true),(8,.bool ((((!(!(p.rep.name==[]))))||((p.ll.length:Int)==1)))),(9,.bool (((p.gl.length:Int)==0)))] (h'':=prX b3 (K1 p.name p.ch p.tg p.ex p.pn p.sp)::prX b1 p::h) ?_ Su Sb ⟨true,(((!(!(p.rep.name==[]))))||((p.ll.length:Int)==1)),((p.gl.length:Int)==0),K1 p.name p.ch p.tg p.ex p.pn p.sp,⟨S7 hO.n hO.ch hO.tg hO.ex hO.pn hO.pw hsk,c7a hk118⟩,rfl,rfl⟩);exact Su;have nk118:¬(p.k=8\/p.k=9):=λq=>by rw[hb41.2 q]at c118;cases c118
 refine Z2 ?_;refine wE ?_ ?_<;>intro c129
 refine ZZ [3,5] ?_;refine WL.nil (B4 [(4,.bool ((!(!(p.rep.name==[]))))),(8,.bool (((p.ll.length:Int)==2))),(9,.bool (((p.gl.length:Int)==0)))] (h'':=prX b3 (K1 p.name p.ch p.tg p.ex p.pn p.sp)::prX b1 p::h) ?_ Su Sb ⟨(!(!(p.rep.name==[]))),((p.ll.length:Int)==2),((p.gl.length:Int)==0),K1 p.name p.ch p.tg p.ex p.pn p.sp,⟨S7 hO.n hO.ch hO.tg hO.ex hO.pn hO.pw hsk,c8c c129⟩,rfl,rfl⟩);exact Su;refine Z2 ?_;refine wE ?_ ?_<;>intro c137
 refine ZZ [12,1,0] ?_;refine B1 [1,3,9] rfl (λμ F' h'=>∃i:Nat,∃v:Bool,(i<=p.pn.l.length/\((p.pn.l.length<=8->(((!(!(p.rep.name==[])))&&((p.pn.l.length:Int)==(p.ll.length:Int)))&&p.pn.l.all okN)=(v&&(p.pn.l.drop i).all okN))/\(¬p.pn.l.length<=8->v=((!(!(p.rep.name==[])))&&((p.pn.l.length:Int)==(p.ll.length:Int))))))/\p.pn.l.length-i=μ/\F'=[(4,.bool v),(10,.int .i64 i)]/\prX b3 (K1 p.name p.ch p.tg p.ex p.pn p.sp)::prX b1 p::h=h') (p.pn.l.length-0) [(4,.bool (((!(!(p.rep.name==[])))&&((p.pn.l.length:Int)==(p.ll.length:Int))))),(10,.int .i64 0)] (h0:=prX b3 (K1 p.name p.ch p.tg p.ex p.pn p.sp)::prX b1 p::h) ?_ Sb ⟨0,((!(!(p.rep.name==[])))&&((p.pn.l.length:Int)==(p.ll.length:Int))),⟨by omega,λ_=>rfl,λ_=>rfl⟩,rfl,rfl,rfl⟩ ?_;exact Su;rintro _ _ _ ⟨i,v,⟨hi,hJ,hN⟩,rfl,rfl,rfl⟩;refine B2 rfl ?_;refine Z11 ?_;refine wc ?_ ?_<;>intro c160
 have d160:i<p.pn.l.length/\p.pn.l.length<=8:=by simp at c160;omega
 obtain⟨x,hx⟩:=A5 (l:=p.pn.l) (k:=i) (by omega);refine ZZ [0,5] ?_;refine E8 (GU.t rfl rfl) (λhc=>D8 b2W.und b2W.size b2W.posz (Eg hc) (Eg hc) Rr rfl (by omega)) Lb ?_;refine zG (λhc=>a6c uu3 rfl a4a Rr (Eg hc) (by assumption) rfl) ?_;refine kA6 ?_;refine E8 (GU.t rfl rfl) (λhc=>D8 b2W.und b2W.size b2W.posz (Eg hc) (Eg hc) Rr rfl (by omega)) Lb ?_;refine zG (λhc=>a6c uu3 rfl a4a Rr (Eg hc) (by assumption) rfl) ?_;refine ZZ [3,3] ?_;refine WL.nil (A6 (p.pn.l.length-(i+1)) [(4,.bool (((v&&decide (x>=0))&&decide (x<=7)))),(10,.int .i64 (i+1))] (h'':=prX b3 (K1 p.name p.ch p.tg p.ex p.pn p.sp)::prX b1 p::h) (by omega) ?_ Su Sb ⟨i+1,((v&&decide (x>=0))&&decide (x<=7)),⟨by omega,λh8=>by rw[hJ h8,c1h hx];unfold okN;rw[Bool.and_assoc,Bool.and_assoc,Bool.and_assoc],λh8=>absurd d160.2 h8⟩,rfl,rfl,rfl⟩);exact Su;have d160:¬(i<p.pn.l.length/\p.pn.l.length<=8):=λq=>by
  have q1:(i:Int)<(p.pn.l.length:Int):=by omega
  have q2:(p.pn.l.length:Int)<=8:=by omega
  simp[q1,q2]at c160
 have hJ2:p.pn.l.length<=8->v=(((!(!(p.rep.name==[])))&&((p.pn.l.length:Int)==(p.ll.length:Int)))&&p.pn.l.all okN):=λh8=>by rw[hJ h8,List.drop_eq_nil_of_le (by omega)];simp
 refine ZZ [0,11,2] ?_;refine WL.nil (B4 [(4,.bool v),(8,.bool ((decide ((p.ll.length:Int)>=1)&&decide ((p.ll.length:Int)<=8)))),(9,.bool (((p.gl.length:Int)==0)))] (h'':=prX b3 (K1 p.name p.ch p.tg p.ex B0 p.sp)::prX b1 p::h) ?_ Su Sb ⟨v,(decide ((p.ll.length:Int)>=1)&&decide ((p.ll.length:Int)<=8)),((p.gl.length:Int)==0),K1 p.name p.ch p.tg p.ex B0 p.sp,⟨S7 hO.n hO.ch hO.tg hO.ex pz a4c hsk,c8x c137 hJ2 hN⟩,rfl,rfl⟩);exact Su;refine kP2 [1,3,4,5,6,7,8,9,31,191] ?_;refine F4 KKh [1,3,4,5,6,7,8,9,31] rfl (λF' h'=>∃b56:Bool,((b56=true↔(p.k=12\/p.k=13)))/\F'=[(191,.bool b56)]/\prX b3 (K1 p.name p.ch p.tg p.ex p.pn p.sp)::prX b1 p::h=h') ?_ ?_;refine jE ?_;refine wE ?_ ?_<;>intro c191
 refine WC.skip (B4 [(191,.bool ((p.k==12)))] (h'':=prX b3 (K1 p.name p.ch p.tg p.ex p.pn p.sp)::prX b1 p::h) ?_ Su Sb ⟨(p.k==12),⟨λ_=>.inl c191,λ_=>by simpa using c191⟩,rfl,rfl⟩);exact Su;refine kA2 ?_;refine WL.nil (B4 [(191,.bool ((p.k==13)))] (h'':=prX b3 (K1 p.name p.ch p.tg p.ex p.pn p.sp)::prX b1 p::h) ?_ Su Sb ⟨(p.k==13),⟨λhk=>.inr (by simpa using hk),λhk=>hk.elim (λh1=>absurd h1 c191) (λh1=>by simpa using h1)⟩,rfl,rfl⟩);exact Su;rintro _ _ ⟨b56,hb56,rfl,rfl⟩;refine B2 rfl ?_;refine jE ?_;refine wc ?_ ?_<;>intro c191
 have hk191:=hb56.1 c191;refine ZZ [1,4] ?_;refine M6 Ef (Evs.cons Et (Evs.cons Et (Evs.cons Et (Evs.cons Ek (Evs.cons Ek Evs.nil))))) (a4q _ _ _ p.gl le mo 2 4 _ _ (hO.g.mono v0 Sb) (λx hx=>(b1H hP x hx).mono Sb)) Lb ?_;refine kA1 ?_;refine WL.nil (B4 [(4,.bool true),(8,.bool (((p.ll.length:Int)==0))),(9,.bool (E7 p.gl le mo (gQ 2 4)))] (h'':=prX b3 (K1 p.name p.ch p.tg p.ex p.pn p.sp)::prX b1 p::h) ?_ Su Sb ⟨true,((p.ll.length:Int)==0),E7 p.gl le mo (gQ 2 4),K1 p.name p.ch p.tg p.ex p.pn p.sp,⟨S7 hO.n hO.ch hO.tg hO.ex hO.pn hO.pw hsk,c1y hk191 hml⟩,rfl,rfl⟩);exact Su;have nk191:¬(p.k=12\/p.k=13):=λq=>by rw[hb56.2 q]at c191;cases c191
 refine Z2 ?_;refine wE ?_ ?_<;>intro c199
 refine ZZ [1,4] ?_;refine M6 Ef (Evs.cons Et (Evs.cons Et (Evs.cons Et (Evs.cons Ek (Evs.cons Ek Evs.nil))))) (a4q _ _ _ p.gl le mo 1 1 _ _ (hO.g.mono v0 Sb) (λx hx=>(b1H hP x hx).mono Sb)) Lb ?_;refine kA1 ?_;refine WL.nil (B4 [(4,.bool true),(8,.bool (((p.ll.length:Int)==0))),(9,.bool (E7 p.gl le mo (gQ 1 1)))] (h'':=prX b3 (K1 p.name p.ch p.tg p.ex p.pn p.sp)::prX b1 p::h) ?_ Su Sb ⟨true,((p.ll.length:Int)==0),E7 p.gl le mo (gQ 1 1),K1 p.name p.ch p.tg p.ex p.pn p.sp,⟨S7 hO.n hO.ch hO.tg hO.ex hO.pn hO.pw hsk,c7C c199 hml⟩,rfl,rfl⟩);exact Su;refine Z2 ?_;refine wE ?_ ?_<;>intro c206
 refine kA5 ?_;refine A4 (GU.t rfl rfl) (λhc=>⟨Ef,(E3 (Eg hc) Ek Ek),a4A _ _ _ p.ex.l 1 1 _ _ (hO.ex.rd.mono v0 Sb) (λx hx=>(hO.ex.ok x hx).mono Sb)⟩) Lb ?_;refine ZZ [2,2] ?_;refine M6 Ef (Evs.cons Et (Evs.cons Ek (Evs.cons Ek (Evs.cons Ek (Evs.cons Ek Evs.nil))))) (a4q _ _ _ p.gl 0 16 5 6 _ _ (hO.g.mono v0 Sb) (λx hx=>(b1H hP x hx).mono Sb)) Lb ?_;refine ZZ [1,2] ?_;refine WL.nil (B4 [(4,.bool (((!(!(p.rep.name==[])))&&E7 p.ex.l 1 1 F8))),(8,.bool (((p.ll.length:Int)==0))),(9,.bool (E7 p.gl 0 16 (gQ 5 6)))] (h'':=prX b3 (K1 p.name p.ch p.tg B0 p.pn p.sp)::prX b1 p::h) ?_ Su Sb ⟨((!(!(p.rep.name==[])))&&E7 p.ex.l 1 1 F8),((p.ll.length:Int)==0),E7 p.gl 0 16 (gQ 5 6),K1 p.name p.ch p.tg B0 p.pn p.sp,⟨S7 hO.n hO.ch hO.tg lz hO.pn hO.pw hsk,c8z c206⟩,rfl,rfl⟩);exact Su;refine Z2 ?_;refine wE ?_ ?_<;>intro c219
 refine kA5 ?_;refine A4 (GU.t rfl rfl) (λhc=>⟨Ef,(E3 (Eg hc) Ek Ek),a4A _ _ _ p.ex.l 1 1 _ _ (hO.ex.rd.mono v0 Sb) (λx hx=>(hO.ex.ok x hx).mono Sb)⟩) Lb ?_;refine ZZ [2,5,2] ?_;refine WL.nil (B4 [(4,.bool (((!(!(p.rep.name==[])))&&E7 p.ex.l 1 1 F8))),(8,.bool (((p.ll.length:Int)==1))),(9,.bool (((p.gl.length:Int)==0)))] (h'':=prX b3 (K1 p.name p.ch p.tg B0 p.pn p.sp)::prX b1 p::h) ?_ Su Sb ⟨((!(!(p.rep.name==[])))&&E7 p.ex.l 1 1 F8),((p.ll.length:Int)==1),((p.gl.length:Int)==0),K1 p.name p.ch p.tg B0 p.pn p.sp,⟨S7 hO.n hO.ch hO.tg lz hO.pn hO.pw hsk,c7u c219⟩,rfl,rfl⟩);exact Su;refine Z2 ?_;refine wE ?_ ?_<;>intro c233
 refine kA5 ?_;refine A4 (GU.t rfl rfl) (λhc=>⟨Ef,(E1 (Eg hc)),CT.val (a06 p.name _ _ hn2) (congrArg Value.bool (Go.Lx.name_eq p.name).symm)⟩) Lb ?_;refine kA4 ?_;refine A4 (GU.t rfl rfl) (λhc=>⟨Ef,(E3 (Eg hc) Ek Ek),a4A _ _ _ p.ex.l 0 8 _ _ (hO.ex.rd.mono v0 Sb) (λx hx=>(hO.ex.ok x hx).mono Sb)⟩) Lb ?_;refine ZZ [2,2,2] ?_;refine WL.nil (B4 [(4,.bool ((((!(!(p.rep.name==[])))&&Go.Lx.name p.name)&&E7 p.ex.l 0 8 F8))),(8,.bool (((p.ll.length:Int)==0))),(9,.bool (((p.gl.length:Int)==0)))] (h'':=prX b3 (K1 [] p.ch p.tg B0 p.pn p.sp)::prX b1 p::h) ?_ Su Sb ⟨(((!(!(p.rep.name==[])))&&Go.Lx.name p.name)&&E7 p.ex.l 0 8 F8),((p.ll.length:Int)==0),((p.gl.length:Int)==0),K1 [] p.ch p.tg B0 p.pn p.sp,⟨S7 (by decide) hO.ch hO.tg lz hO.pn hO.pw hsk,c7i c233⟩,rfl,rfl⟩);exact Su;refine Z2 ?_;refine wE ?_ ?_<;>intro c249
 refine kA5 ?_;refine A4 (GU.t rfl rfl) (λhc=>⟨Ef,(E1 (Eg hc)),c3k p.sp _ _ (hsk.mono Sb)⟩) Lb ?_;refine ZZ [2,5,3] ?_;refine WL.nil (B4 [(4,.bool (((!(!(p.rep.name==[])))&&spP p.sp))),(8,.bool (((p.ll.length:Int)==1))),(9,.bool (((p.gl.length:Int)==0)))] (h'':=prX b3 (K1 p.name p.ch p.tg p.ex p.pn C3)::prX b1 p::h) ?_ Su Sb ⟨((!(!(p.rep.name==[])))&&spP p.sp),((p.ll.length:Int)==1),((p.gl.length:Int)==0),K1 p.name p.ch p.tg p.ex p.pn C3,⟨S7 hO.n hO.ch hO.tg hO.ex hO.pn hO.pw (c8a m h),c7V c249⟩,rfl,rfl⟩);exact Su
 refine WC.skip (B4 [(4,.bool false),(8,.bool (((p.ll.length:Int)==0))),(9,.bool (((p.gl.length:Int)==0)))] (h'':=prX b3 (K1 p.name p.ch p.tg p.ex p.pn p.sp)::prX b1 p::h) ?_ Su Sb ⟨false,((p.ll.length:Int)==0),((p.gl.length:Int)==0),K1 p.name p.ch p.tg p.ex p.pn p.sp,⟨S7 hO.n hO.ch hO.tg hO.ex hO.pn hO.pw hsk,c6Y nk32 c37 c53 c70 c87 c104 nk118 c129 c137 nk191 c199 c206 c219 c233 c249 _ _ _⟩,rfl,rfl⟩);exact Su;rintro _ _ ⟨fb,pb,gb,xp,hfb,rfl,rfl⟩;refine B2 rfl ?_;refine b7f ?_;refine A4 (GU.t rfl rfl) (λhc=>⟨Ef,(E1 (Eg hc)),c6a p.rep hO.rn (hO.rb.mono Sb) (hO.rc.mono Sb)⟩) Lb ?_;refine kA2 ?_;refine zG (λ_=>pA S9) ?_;refine zG (λ_=>PO.build S9 rfl rfl rfl EvP.nil rfl) ?_;refine A4 (GU.t rfl rfl) (λhc=>⟨Ef,(E2 (Eg hc) (Eg hc)),b07 xp R3 _ _ (hfb.1.mono Sb) ((c0r m h).mono Sb)⟩) Lb ?_;refine Z2 ?_;refine wT h ?_;exact⟨by rw[hfb.2],rfl⟩
end
section
open Go.Eng Go.Pc Go.Sx Go
open Go.Xp hiding B C9
open Go.Ty (Ty Vr Tok eqT tyV I7 A3 B8 O4 zeroK M8 D3 encV D2 VOk PrOk)
open Go.Lx (encB encB_len textO)
open Go.Ly (Rw P4 F9 eqR b2O b3u b3t)
theorem pt0:a6F [120,44,32,121,32,58,61,32,49,44,32,118,91,105,93]=true:=by decide +kernel
theorem pm0:a4s [120,44,32,121,32,58,61,32,49,44,32,118,91,105,93] 3=true:=by decide +kernel
theorem pt1:a6F [73,78,84,32,120,58,47,83,69,81,32,105,32,61,32,48,32,70,79,82,32,52,47,46,99,32,33,32,120]=true:=by decide +kernel
theorem pm1:a4s [73,78,84,32,120,58,47,83,69,81,32,105,32,61,32,48,32,70,79,82,32,52,47,46,99,32,33,32,120] 18=true:=by decide +kernel
theorem pt2:a6F [65,76,84,47,46,110,32,62,32,48,32,38,32,99,32,63,32,120,47,46,46,83,75,73,80,47,46,116,32,63,32,65,70,84,69,82,32,110,47,46,46,83,84,79,80]=true:=by decide +kernel
theorem pm2:a4s [65,76,84,47,46,110,32,62,32,48,32,38,32,99,32,63,32,120,47,46,46,83,75,73,80,47,46,116,32,63,32,65,70,84,69,82,32,110,47,46,46,83,84,79,80] 12=true:=by decide +kernel
theorem pt3:a6F [80,82,79,84,79,67,79,76,32,112,47,46,67,65,83,69,47,46,46,112,117,116,59,32,73,78,84,47,46,46,101,110,100,47,58,47,83,75,73,80]=true:=by decide +kernel
theorem pm3:a4s [80,82,79,84,79,67,79,76,32,112,47,46,67,65,83,69,47,46,46,112,117,116,59,32,73,78,84,47,46,46,101,110,100,47,58,47,83,75,73,80] 18=true:=by decide +kernel
theorem pt4:a6F [87,72,73,76,69,32,84,82,85,69,47,46,83,75,73,80]=true:=by decide +kernel
theorem pm4:a4s [87,72,73,76,69,32,84,82,85,69,47,46,83,75,73,80] 16=true:=by decide +kernel
theorem ft0:a6F [83,69,81,47,46,120,32,58,61,32,49,47,46,46,83,75,73,80]=true:=by decide +kernel
theorem fm0:a3F [83,69,81,47,46,120,32,58,61,32,49,47,46,46,83,75,73,80] 2 110=true:=by decide +kernel
theorem ft1:a6F [83,69,81,32,105,32,61,32,48,32,70,79,82,32,51,47,46,83,75,73,80,47,46,83,75,73,80]=true:=by decide +kernel
theorem fm1:a3F [83,69,81,32,105,32,61,32,48,32,70,79,82,32,51,47,46,83,75,73,80,47,46,83,75,73,80] 2 110=true:=by decide +kernel
theorem ft2:a6F [83,75,73,80,47,83,75,73,80]=true:=by decide +kernel
theorem fm2:a3F [83,75,73,80,47,83,75,73,80] 1 110=true:=by decide +kernel
theorem ft3:a6F [40,120,41,32,58,61,32,49]=true:=by decide +kernel
theorem fm3:a3F [40,120,41,32,58,61,32,49] 0 110=true:=by decide +kernel
theorem ft4:a6F [120,32,58,61,32,49,32,43,32,50,32,43,32,51]=true:=by decide +kernel
theorem fm4:a3F [120,32,58,61,32,49,32,43,32,50,32,43,32,51] 0 110=true:=by decide +kernel
theorem ft5:a6F [83,69,81,47,46,120,32,58,61,32,36]=true:=by decide +kernel
theorem fm5:a3F [83,69,81,47,46,120,32,58,61,32,36] 1 80=true:=by decide +kernel
theorem ft6:a6F [73,78,84,32,120,58]=true:=by decide +kernel
theorem fm6:a3F [73,78,84,32,120,58] 1 110=true:=by decide +kernel
theorem ft7:a6F [80,82,73,32,80,65,82,47,46,83,75,73,80]=true:=by decide +kernel
theorem fm7:a3F [80,82,73,32,80,65,82,47,46,83,75,73,80] 2 110=true:=by decide +kernel
theorem a1S{m:View}(hg:Glob m)(s:B)(n e:Int)(hT:TxtOk s)(hM:a3F s n e=true)(h:List Res) :
 CT prog 21 [str s,.int .i64 n,.int .i64 e] h m (A7 h (.bool true)):=by
 unfold a3F at hM;simp only[Bool.and_eq_true,beq_iff_eq]at hM;obtain⟨⟨hM1,hM2⟩,hM3⟩:=hM;refine cB [0,1,2,6,7,8,9] func21 λ_=>?_;refine ZZ [1,1] ?_;refine xJ (E1 Et) (b3L hg s hT.n hT.l hT.p _) λa12 c12=>?_
 refine xg (E1 Et) (b1W hg _ _ (a0T s) _ hT.t) ?_;rintro _ _ ⟨x,hh,rfl,hst,hok,rfl⟩;rw[hM2,hM3];have hsx:H6 x R3=true:=by rw[<-b83,hst];exact hM1
 refine kA4 ?_;refine xW λb7=>?_;refine ZZ [3,2] ?_;refine xf (E2 Et Et) ((b07 x R3 _ _ (hok.mono Sb) (c0r m _)).val (congrArg Value.bool hsx)) ?_;refine kA1 ?_;refine zU ?_;refine kA1 ?_;refine zU ?_;refine kA1 ?_;refine zU ?_;refine kA1 ?_;refine wV (b':=true) (by simp) ?_;refine kA2 ?_;refine zU ?_;refine kA1 ?_;refine zU ?_;refine kA1 ?_;refine zU ?_;refine kA1 ?_;refine wV (b':=true) (by simp) ?_;refine Z2 ?_;refine wT h ?_;exact⟨rfl,rfl⟩
def skP:Pr:=.mk 1 [] A2 B0 B0 a4u none 0 [] none 0 [] B0 C3
def unP(k:Int)(b:Nat):Pr:=.mk k [] A2 B0 B0 a4u none 0 [] (some ⟨b,0,none⟩) 1 [skP] B0 C3
theorem c6L(m:View)(h:List Res):POk m h skP:=b9e m h (k:=1) (by decide)
theorem c6v{m:View}{h:List Res}{k:Int}{b:Nat}(hk:0<=k/\k<=255)(hb:Res.pt b (.cells (prE skP).toArray 45 (0,0))∈h):POk m h (unP k b):=
 a6l hk (Nat.zero_le _) (H5 _ _) (I4 _ _) (I4 _ _) (a0g _ _) (a1y _ _) ⟨Rd.ofPt rfl (show 1<=9223372036854775807 by decide) hb,λx hx=>by rw[List.mem_singleton]at hx;subst hx;exact c6L m h⟩ (a0D _ _) (W2 _ _)
theorem c8D(b:Nat):mayP (unP 10 b)=false:=by kernel_rfl
theorem c7j:mayP skP=true:=by kernel_rfl
theorem c7Y(b:Nat):W64 (P9 (unP 16 b))=2:=by kernel_rfl
theorem d0b:(T7 []).2=(0,110):=by kernel_rfl
theorem c1u{m:View}(hg:Glob m)(hp:Pow m)(h:List Res):CT prog 8 [] h m (A7 h (.bool true)):=by
 refine cB [0,1,2,4,5,6] func8 λ_=>?_;refine Z1 ?_;refine xf (E2 Ek Ek) (a3Q hg hp _ _ (a1C pt0) pm0 _) ?_;refine kA1 ?_;refine zU ?_;refine xf (E2 Ek Ek) (a3Q hg hp _ _ (a1C pt1) pm1 _) ?_;refine kA2 ?_;refine zU ?_;refine xf (E2 Ek Ek) (a3Q hg hp _ _ (a1C pt2) pm2 _) ?_;refine kA2 ?_;refine zU ?_;refine xf (E2 Ek Ek) (a3Q hg hp _ _ (a1C pt3) pm3 _) ?_;refine kA2 ?_;refine zU ?_;refine xf (E2 Ek Ek) (a3Q hg hp _ _ (a1C pt4) pm4 _) ?_;refine Z2 ?_;refine xf (E3 Ek Ek Ek) (a1S hg _ _ _ (a1C ft0) fm0 _) ?_;refine kA1 ?_;refine zU ?_;refine xf (E3 Ek Ek Ek) (a1S hg _ _ _ (a1C ft1) fm1 _) ?_;refine kA2 ?_;refine zU ?_;refine xf (E3 Ek Ek Ek) (a1S hg _ _ _ (a1C ft2) fm2 _) ?_;refine kA2 ?_;refine zU ?_;refine xf (E3 Ek Ek Ek) (a1S hg _ _ _ (a1C ft3) fm3 _) ?_;refine kA2 ?_;refine zU ?_;refine xf (E3 Ek Ek Ek) (a1S hg _ _ _ (a1C ft4) fm4 _) ?_;refine kA2 ?_;refine zU ?_;refine xf (E3 Ek Ek Ek) (a1S hg _ _ _ (a1C ft5) fm5 _) ?_
 refine kA2 ?_;refine zU ?_;refine xf (E3 Ek Ek Ek) (a1S hg _ _ _ (a1C ft6) fm6 _) ?_;refine kA2 ?_;refine zU ?_;refine xf (E3 Ek Ek Ek) (a1S hg _ _ _ (a1C ft7) fm7 _) ?_;refine Z2 ?_;refine xg (E1 Ek) (b4O hg none 0 [] _ (Rd.nilF P4 3 m []) nofun) ?_;rintro _ _ ⟨x,hh,rfl,hst,hok,rfl⟩;rw[d0b];refine kA4 ?_;refine xW λb3=>?_;refine ZZ [3,1] ?_;refine xW λb6=>?_
 refine ZZ [1,2] ?_;refine zU ?_;refine kA3 ?_;refine zU ?_;refine kA1 ?_;refine zU ?_;refine kA3 ?_;refine zU ?_;refine kA1 ?_;refine zU ?_;refine kA3 ?_;refine zU ?_;refine kA1 ?_;refine zU ?_;refine xY T9 Eb λb62=>?_;refine zU ?_;refine kA1 ?_;refine zU ?_;refine xf (E1 Et) ((b3C hg (unP 10 b62) (c6v (by decide) Me)).val (congrArg Value.bool (c8D _))) ?_;refine zU ?_;refine kA3 ?_;refine zU ?_;refine kA1 ?_;refine zU ?_;refine xf (E1 Et) ((b3C hg skP (c6L m _)).val (congrArg Value.bool c7j)) ?_;refine kA2 ?_;refine zU ?_;refine kA1 ?_;refine zU ?_;refine xY T9 Eb λb73=>?_
 refine zU ?_;refine kA1 ?_;refine zU ?_;refine xf (E1 Et) ((c5H (unP 16 b73) _ m (c6v (by decide) Me)).val (congrArg (Value.int .i64) (c7Y _))) ?_;refine zU ?_;refine Z3 ?_;refine wT h ?_;exact⟨rfl,rfl⟩
end
end Go.Proofs.YtkgfanibfkdbfaaGreatDoor
namespace Go.Proofs.YtkgfanibfkdbfaaGreatDoor.Ty9
open Go.Proofs.Tryz
section
open Go.Eng Go.Lx Go.Ty
theorem a0Z(s:B)(h:List Res)(m:View):CT prog 259 [str s] h m (A7 h (O4 (B9 s))):=by
 refine cB [0,2] func259 λ_=>?_;refine xW λb2=>?_
 refine ZZ [0,3,0] ?_;refine WC.ret (a2V (h':=h) (.inl rfl) rfl (G4 M4 rfl rfl rfl Me rfl) Vl Sb ?_);exact⟨rfl,rfl⟩
theorem a3T(s:B)(h:List Res)(m:View):CT prog 260 [str s] h m (A7 h (O4 (L7 s))):=by
 refine cB [0,2] func260 λ_=>?_;refine xW λb2=>?_
 refine ZZ [0,3,0] ?_;refine WC.ret (a2V (h':=h) (.inl rfl) rfl (G4 M4 rfl rfl rfl Me rfl) Vl Sb ?_);exact⟨rfl,rfl⟩
theorem wordR9_ct(k:Int)(h:List Res)(m:View):CT prog 168 [.int .u8 k] h m (A7 h (O4 (L7 (wordR k)))):=by
 refine cB [0,2,4,7] func168 λ_=>?_;refine xW λb2=>?_
 refine ZZ [0,2,0] ?_;refine wc ?_ ?_<;>intro c4
 refine j0 ?_;refine xf (E1 Ek) (a3T b9n _ _) ?_;refine Z1 ?_;refine WC.ret (a2V (h':=h) (.inl rfl) rfl (G4 M4 rfl rfl rfl Me rfl) Vl Sb ?_);exact⟨by unfold wordR;rw[c4];rfl,rfl⟩;refine ZZ [0,2,0] ?_;refine wc ?_ ?_<;>intro c7
 refine j0 ?_;refine xf (E1 Ek) (a3T b2l _ _) ?_;refine Z1 ?_;refine WC.ret (a2V (h':=h) (.inl rfl) rfl (G4 M4 rfl rfl rfl Me rfl) Vl Sb ?_);exact⟨by unfold wordR;rw[c4,c7];rfl,rfl⟩;refine Z0 ?_;refine xf (E1 Ek) (a3T b1T _ _) ?_;refine Z1 ?_;refine WC.ret (a2V (h':=h) (.inl rfl) rfl (G4 M4 rfl rfl rfl Me rfl) Vl Sb ?_);exact⟨by unfold wordR;rw[c4,c7];rfl,rfl⟩
theorem tokensR_ct(t:Ty)(h:List Res)(m:View)(hs:t.proto.length<=9223372036854775807):CT prog 166 [tyV t] h m (c9n h (tokens t)):=by
 refine cB [1,2,3,4,7,22,29,43] func166 λ_=>?_;refine xX λb1=>?_
 refine WL.addNil 97 4 ?_;refine ZZ [2,1] ?_;refine xf (E1 Et) (mayR_ct t _ _ hs) ?_;refine Z1 ?_;refine wc ?_ ?_<;>intro c7
 rw[<-may_eq]at c7;have d12:may t=false:=by simpa using c7
 refine j0 ?_;refine WL.addNil 97 4 ?_;refine kA1 ?_;refine WL.addNil 97 4 ?_;refine Z1 ?_;refine w2 (.row (.slice none 0 0) 97 4 0 []::h) ?_;exact⟨none,0,by rw[a5M d12];rfl,by rw[a5M d12];rfl⟩;rw[<-may_eq]at c7;have d12:may t=true:=by simpa using c7
 refine Z0 ?_;refine WL.addNil 97 4 ?_;refine Z1 ?_;generalize hD:dimT t=D;have hDl:D.length<=3:=hD▸dimT_le t
 refine kP3 [1,4,10] ?_;refine F4 KKh [1] rfl (λF' h'=>∃a:Option Addr,∃c:Nat,(True)/\F'=[(4,.slice a D.length c)]/\.row (.slice a D.length c) 97 4 D.length (fl A3 D)::.pt b1 (.cells (I7 t).toArray 36 (0,0))::h=h') ?_ ?_;refine jE ?_;refine wc ?_ ?_<;>intro c10
 have e10:D=[B9 lb,⟨3,0,[],t.dim⟩,B9 rb]:=by rw[<-hD];unfold dimT;rw[c10];rfl
 refine jE ?_;refine F3 [1,6] (.op 0 (.op 2 (.op 3 (.op 4 (.op 5 (.op 1 (.op 6 .nil))))))) [7,8,9] _ [] C4 (λ_ _ _ _ _ h=>h) [0] (by kernel_rfl) ?_;refine kA3 ?_;refine yG rfl (PO.conv uu3 a1X Et) ?_;refine SR.val (v':=.int .i32 t.dim) (congrArg (Value.int .i32) (b5S d12)) ?_;refine yG rfl (PO.build M4 rfl rfl rfl Eb (by exact rfl)) ?_;refine yf rfl (E1 Ek) (λfr=>a0Z lb _ _) ?_;refine yf rfl (E1 Ek) (λfr=>a0Z rb _ _) ?_;refine SR.nil rfl rfl ?_;refine xY B3 Eb λb18=>?_;refine xD B3 (Ev.tmp rfl) (Ev.tmp rfl) rfl (Q8 (enc:=A3) [] [B9 lb,⟨3,0,[],t.dim⟩,B9 rb]).symm λa19 c19=>?_
 refine WL.drop (h':=.row (.slice a19 3 c19) 97 4 3 (fl A3 [B9 lb,⟨3,0,[],t.dim⟩,B9 rb])::.pt b1 (.cells (I7 t).toArray 36 (0,0))::h) Sb ?_;refine a1L (h':=.row (.slice a19 D.length c19) 97 4 D.length (fl A3 D)::.pt b1 (.cells (I7 t).toArray 36 (0,0))::h) (by rw[e10];rfl) ?_;refine kA1 ?_;refine WL.nil (B4 [(4,.slice a19 D.length c19)] (h'':=.row (.slice a19 D.length c19) 97 4 D.length (fl A3 D)::.pt b1 (.cells (I7 t).toArray 36 (0,0))::h) ?_ Su Sb ⟨a19,c19,by trivial,rfl,rfl⟩);refine Sub.consE rfl (by rw[e10];rfl) ?_;exact Su;have e10:D=[]:=by rw[<-hD];unfold dimT;rw[c10];rfl
 refine WC.drop (h':=.row (.slice none 0 0) 97 4 0 []::.pt b1 (.cells (I7 t).toArray 36 (0,0))::h) Sb ?_;refine V9 (h':=.row (.slice none D.length 0) 97 4 D.length (fl A3 D)::.pt b1 (.cells (I7 t).toArray 36 (0,0))::h) (by rw[e10];rfl) ?_;refine WC.skip (B4 [(4,.slice none D.length 0)] (h'':=.row (.slice none D.length 0) 97 4 D.length (fl A3 D)::.pt b1 (.cells (I7 t).toArray 36 (0,0))::h) ?_ Su Sb ⟨none,0,by trivial,rfl,rfl⟩);refine Sub.consE rfl (by rw[e10];rfl) ?_;exact Su;rintro _ _ ⟨a,c,hJ,rfl,rfl⟩;refine B2 rfl ?_;refine Z3 ?_;refine wc ?_ ?_<;>intro c22
 refine kA1 ?_;refine xf (E1 Ek) (a3T _ _ _) ?_;refine xY B3 Eb λb25=>?_;refine xD B3 (Ev.tmp rfl) (Ev.tmp rfl) rfl (D4 (enc:=A3) _ (L7 a3e)) λa26 c26=>?_
 refine Z2 ?_;refine w2 (.row (.slice a26 (D.length+1) c26) 97 4 (D.length+1) (fl A3 (D++[L7 a3e]))::h) ?_;exact⟨a26,c26,by rw[N9 d12,<-b0A d12 c22,hD];simp,by rw[N9 d12,<-b0A d12 c22,hD];simp⟩;refine ZZ [0,3,0] ?_;refine wc ?_ ?_<;>intro c29
 refine kA3 ?_;refine xf (E1 Et) (wordR9_ct _ _ _) ?_;refine xY B3 Eb λb34=>?_;refine xD B3 (Ev.tmp rfl) (Ev.tmp rfl) rfl (D4 (enc:=A3) _ (L7 (wordR t.kind))) λa35 c35=>?_
 refine Z2 ?_;refine w2 (.row (.slice a35 (D.length+1) c35) 97 4 (D.length+1) (fl A3 (D++[L7 (wordR t.kind)]))::h) ?_;exact⟨a35,c35,by rw[N9 d12,<-a9S d12 c22 c29,hD];simp,by rw[N9 d12,<-a9S d12 c22 c29,hD];simp⟩;refine ZZ [0,1] ?_;refine xf (E1 Ek) (a3T _ _ _) ?_;refine xf (E1 Ek) (a3T _ _ _) ?_;refine xY B3 Eb λb39=>?_;refine xD B3 (Ev.tmp rfl) (Ev.tmp rfl) rfl (Q8 (enc:=A3) D [L7 a1m,L7 cOF]).symm λa40 c40=>?_
 refine ZZ [1,2] ?_;refine xG (S2 Et Ek) ?_;refine Z0 ?_;refine wc ?_ ?_<;>intro c43
 refine kA4 ?_;refine xY B3 Eb λb48=>?_;refine xD B3 (Ev.tmp rfl) (Ev.tmp rfl) rfl (D4 (enc:=A3) _ (⟨1,0,t.proto,0⟩)) λa49 c49=>?_
 refine Z2 ?_;refine w2 (.row (.slice a49 (D.length+2+1) c49) 97 4 (D.length+2+1) (fl A3 (D++[L7 a1m,L7 cOF]++[⟨1,0,t.proto,0⟩]))::h) ?_;exact⟨a49,c49,by rw[N9 d12,<-b08 d12 c29 c43,hD];simp,by rw[N9 d12,<-b08 d12 c29 c43,hD];simp⟩;refine ZZ [0,3] ?_;refine xf (E1 Et) (wordR9_ct _ _ _) ?_;refine xY B3 Eb λb54=>?_;refine xD B3 (Ev.tmp rfl) (Ev.tmp rfl) rfl (D4 (enc:=A3) _ (L7 (wordR t.item))) λa55 c55=>?_
 refine Z2 ?_;refine w2 (.row (.slice a55 (D.length+2+1) c55) 97 4 (D.length+2+1) (fl A3 (D++[L7 a1m,L7 cOF]++[L7 (wordR t.item)]))::h) ?_;exact⟨a55,c55,by rw[N9 d12,<-b1k d12 c29 c43,hD];simp,by rw[N9 d12,<-b1k d12 c29 c43,hD];simp⟩
end
end Go.Proofs.YtkgfanibfkdbfaaGreatDoor.Ty9
namespace Go.Proofs.YtkgfanibfkdbfaaGreatDoor.Xq
open Go.Proofs.Tryz
section
open Go.Eng Go.Xp Go
open Go.Ty (Tok A3 B8 O4)
theorem a0Z(s:B)(h:List Res)(m:View):CT prog 324 [str s] h m (A7 h (O4 (B9 s))):=by
 refine cB [0,2] func324 λ_=>?_;refine xW λb2=>?_
 refine ZZ [0,3,0] ?_;refine WC.ret (a2V (h':=h) (.inl rfl) rfl (G4 M4 rfl rfl rfl Me rfl) Vl Sb ?_);exact⟨rfl,rfl⟩
theorem a6X(s:B)(h:List Res)(m:View):CT prog 323 [str s] h m (A7 h (O4 (L7 s))):=by
 refine cB [0,2] func323 λ_=>?_;refine xW λb2=>?_
 refine ZZ [0,3,0] ?_;refine WC.ret (a2V (h':=h) (.inl rfl) rfl (G4 M4 rfl rfl rfl Me rfl) Vl Sb ?_);exact⟨rfl,rfl⟩
theorem b5x(o:Int)(ho:0<=o/\o<=255)(h:List Res)(m:View):CT prog 325 [.int .u8 o] h m (A7 h (O4 (G2 o))):=by
 have hk:=Go.Lx.key_eq (X2 o).1;refine cB [0,2,3,11] func325 λ_=>?_;refine xW λb2=>?_
 refine ZZ [0,1] ?_;refine xf (E1 Et) (c05 _ (by assumption) _ _) ?_;refine ZZ [5,1] ?_;refine xf (E1 Et) (a8N _ _ _) ?_;refine Z0 ?_;refine wc ?_ ?_<;>intro c11
 have hq:G2 o=L7 (X2 o).1:=by unfold G2 D7;rw[hk,c11];rfl
 refine kA1 ?_;refine xf (E1 Et) (a6X _ _ _) ?_;refine Z1 ?_;refine WC.ret (a2V (h':=h) (.inl rfl) rfl (G4 M4 rfl rfl rfl Me rfl) Vl Sb ?_);exact⟨by rw[hq];rfl,rfl⟩;have hq:G2 o=B9 (X2 o).1:=by unfold G2 D7;rw[hk,c11];rfl
 refine ZZ [0,1] ?_;refine xf (E1 Et) (a0Z _ _ _) ?_;refine Z1 ?_;refine WC.ret (a2V (h':=h) (.inl rfl) rfl (G4 M4 rfl rfl rfl Me rfl) Vl Sb ?_);exact⟨by rw[hq];rfl,rfl⟩
def a02(k:Int):B:=if k=1 then[73,78,84]else if k=2 then[66,89,84,69]else[66,79,79,76]
theorem c2K(k:Int)(h:List Res)(m:View):CT prog 327 [.int .u8 k] h m (A7 h (str (a02 k))):=by
 refine cB [0,2,3,4,6] func327 λ_=>?_;refine ZZ [1,1,2,0] ?_;refine wE ?_ ?_<;>intro c4
 refine Z1 ?_;refine wT h ?_;exact⟨by unfold a02;rw[if_pos c4],rfl⟩;refine Z2 ?_;refine wE ?_ ?_<;>intro c6
 refine Z1 ?_;refine wT h ?_;exact⟨by unfold a02;rw[if_neg c4,if_pos c6],rfl⟩;refine ZZ [0,1,0] ?_;refine wT h ?_;exact⟨by unfold a02;rw[if_neg c4,if_neg c6],rfl⟩
theorem a4n{s:B}(h:Go.Lx.key s=true):D7 s=L7 s:=by unfold D7;rw[if_pos h]
theorem b6J{e:Ex}(g:Fine e)(h:e.k=8):L7 (a02 e.t)=D7 (N0 e.t):=by
 have h1:=g.ok;unfold D5 at h1;simp only[h]at h1;by_cases h2:e.t=1
 ·rw[h2];exact(a4n (by decide +kernel)).symm
 by_cases h3:e.t=2
 ·rw[h3];exact(a4n (by decide +kernel)).symm
 by_cases h4:e.t=3
 ·rw[h4];exact(a4n (by decide +kernel)).symm
 simp[N0,h2,h3,h4]at h1
abbrev LCT(m:View)(e:Ex):Prop:=∀(h:List Res),TOk m h e->Fine e->Wf e->a3i e<=100000 ->
 CT prog 261 [exV e] h m (λv _ h'=>b3K A3 97 4 h (A8 e) v h')
theorem a3Z{m:View}(e:Ex)(hw:LCT m e)(h:List Res)(hT:TOk m h e)(hF:Fine e)(hW:Wf e)(hl:a3i e<=100000) :
 CT prog 326 [exV e] h m (λv _ h'=>b3K A3 97 4 h (B7 e) v h'):=by
 have hwl:=X7 e hF;have hl1:1+(A8 e).length=([B9 [40]]++A8 e).length:=by simp;omega
 have hl2:([B9 [40]]++A8 e).length+1=(([B9 [40]]++A8 e)++[B9 [41]]).length:=by simp
 refine cB [1,2,3] func326 λ_=>?_;refine xX λb1=>?_
 refine ZZ [1,1] ?_;refine xg (E1 Et) (hw _ (hT.mono Sb) hF hW hl) ?_;rintro _ _ ⟨a5,c5,k5,e5,rfl,rfl⟩;refine kR a5 λp5 q5 r5=>?_;subst e5;refine ZZ [1,12] ?_;refine kP6 [3,23] ?_;refine F4 KKh [] rfl (λF' h'=>∃a:Option Addr,∃c:Nat,∃l:List Tok,(l=B7 e)/\F'=[(3,.slice a l.length c)]/\.row (.slice a l.length c) 97 4 l.length (fl A3 l)::h=h') ?_ ?_;refine jE ?_;refine wc ?_ ?_<;>intro c23
 have hp:B7 e=([B9 [40]]++A8 e)++[B9 [41]]:=by unfold B7 N4 par;rw[c23];rfl
 refine j0 ?_;refine xf (E1 Ek) (a0Z _ _ _) ?_;refine xY B3 Eb λb25=>?_;refine kA1 ?_;refine G7 (k:=1) (sz:=4) (cs:=fl A3 [B9 [40]]) rfl (by decide) Up ?_;refine xD B3 (Ev.tmp rfl) (Ev.tmp rfl) hl1 (Q8 (enc:=A3) [B9 [40]] (A8 e)).symm λa27 c27=>?_
 refine xf (E1 Ek) (a0Z _ _ _) ?_;refine xY B3 Eb λb29=>?_;refine xD B3 (Ev.tmp rfl) (Ev.tmp rfl) hl2 (D4 (enc:=A3) _ (B9 [41])) λa30 c30=>?_
 refine kA1 ?_;refine WL.nil (B4 [(3,.slice a30 ((([B9 [40]]++A8 e)++[B9 [41]])).length c30)] (h'':=.row (.slice a30 ((([B9 [40]]++A8 e)++[B9 [41]])).length c30) 97 4 ((([B9 [40]]++A8 e)++[B9 [41]])).length (fl A3 ((([B9 [40]]++A8 e)++[B9 [41]])))::h) ?_ Su Sb ⟨a30,c30,(([B9 [40]]++A8 e)++[B9 [41]]),hp.symm,rfl,rfl⟩);exact Su;have hp:B7 e=A8 e:=by unfold B7 N4 par;rw[c23];rfl
 refine WC.skip (B4 [(3,.slice a5 ((A8 e)).length c5)] (h'':=.row (.slice a5 ((A8 e)).length c5) 97 4 ((A8 e)).length (fl A3 ((A8 e)))::h) ?_ Su Sb ⟨a5,c5,(A8 e),hp.symm,rfl,rfl⟩);exact Su;rintro _ _ ⟨a,c,l,hq,rfl,rfl⟩;refine B2 rfl ?_;refine Z2 ?_;refine wT (.row (.slice a l.length c) 97 4 l.length (fl A3 l)::h) ?_;rw[<-hq];exact⟨_,_,_,rfl,rfl,rfl⟩
theorem c4w{m:View}(e:Ex):LCT m e:=by
 refine Ex.ind (p:=λe=>LCT m e) (λe ih h hT hF hW hl=>?_) e;obtain⟨⟨hk,ho,ht⟩,hn,hs⟩:=hW.spec;have hce:=a0b e;have hr:=hT.rd;have hkind:=a0W hF;have we:=G1 e;refine cB [1,2,3,8,9,15,21,30,34,39,53,65] func261 λ_=>?_;refine xX λb1=>?_
 refine ZZ [1,3] ?_;refine xW λb3=>?_;refine ZZ [1,2,2,0] ?_;refine wE ?_ ?_<;>intro c9
 have we1:A8 e=[a6D e.n]:=by rw[we];simp[wr,c9]
 refine kA3 ?_;refine xY B3 Eb λb14=>?_;refine G7 (k:=1) (sz:=4) (cs:=fl A3 [a6D e.n]) rfl (by decide) Up ?_;refine Z1 ?_;refine wT (.row (.slice (some ⟨b14,0,none⟩) 1 1) 97 4 1 (fl A3 [a6D e.n])::h) ?_;rw[we1];exact⟨_,_,_,rfl,rfl,rfl⟩
 refine Z2 ?_;refine wE ?_ ?_<;>intro c15
 have we1:A8 e=[a2o e.n]:=by rw[we];simp[wr,c15]
 refine kA3 ?_;refine xY B3 Eb λb20=>?_;refine G7 (k:=1) (sz:=4) (cs:=fl A3 [a2o e.n]) rfl (by decide) Up ?_;refine Z1 ?_;refine wT (.row (.slice (some ⟨b20,0,none⟩) 1 1) 97 4 1 (fl A3 [a2o e.n])::h) ?_;rw[we1];exact⟨_,_,_,rfl,rfl,rfl⟩
 refine Z2 ?_;refine wE ?_ ?_<;>intro c21
 have hb:=a6f hn hF c21;obtain⟨i,hi,hi2⟩:∃i:Nat,e.n=i/\i<2:=⟨e.n.toNat,by omega,by omega⟩;obtain⟨w,hw,we1⟩:∃w:B,([[70,65,76,83,69],[84,82,85,69]]:List B)[i]?=some w/\A8 e=[L7 w]:=by
  rcases hb with h0|h0
  ·have hi0:i=0:=by omega
   subst hi0;exact⟨_,rfl,by rw[we];simp[wr,c21,h0];exact a4n (by decide +kernel)⟩
  ·have hi0:i=1:=by omega
   subst hi0;exact⟨_,rfl,by rw[we];simp[wr,c21,h0];exact a4n (by decide +kernel)⟩
 refine j0 ?_;refine xY P6 Eb λb23=>?_;have hrd:Rd m (.pt b23 (.cells (fl Go.Lx.encB [[70,65,76,83,69],[84,82,85,69]]).toArray 9 (0,0))::.pt b3 (.cells (A3 (C9 e.s)).toArray 97 (0,0))::.pt b1 (.cells (exE e).toArray 28 (0,0))::h) (some ⟨b23,0,none⟩) 2 2 1 (fl Go.Lx.encB [[70,65,76,83,69],[84,82,85,69]]):=Rd.ofPt rfl (by decide) (List.Mem.head _);refine kA2 ?_;refine WL.val (v':=.int .i32 (i:Nat)) (congrArg (Value.int .i32) hi) ?_;refine kA1 ?_;refine xG (a6c uu9 rfl Go.Lx.encB_len hrd Et hw rfl) ?_;refine xf (E1 Et) (a6X _ _ _) ?_;refine xY B3 Eb λb29=>?_
 refine G7 (k:=1) (sz:=4) (cs:=fl A3 [L7 w]) rfl (by decide) Up ?_;refine Z1 ?_;refine wT (.row (.slice (some ⟨b29,0,none⟩) 1 1) 97 4 1 (fl A3 [L7 w])::h) ?_;rw[we1];exact⟨_,_,_,rfl,rfl,rfl⟩
 refine Z2 ?_;refine wE ?_ ?_<;>intro c30
 have we1:A8 e=[C9 e.s]:=by rw[we];simp[wr,c30]
 refine kA1 ?_;refine xY B3 Eb λb33=>?_;refine G7 (k:=1) (sz:=4) (cs:=fl A3 [C9 e.s]) rfl (by decide) Up ?_;refine Z1 ?_;refine wT (.row (.slice (some ⟨b33,0,none⟩) 1 1) 97 4 1 (fl A3 [C9 e.s])::h) ?_;rw[we1];exact⟨_,_,_,rfl,rfl,rfl⟩
 refine Z2 ?_;refine wE ?_ ?_<;>intro c34
 have we1:A8 e=[L7 [83,73,90,69],C9 e.s]:=by rw[we];simp[wr,c34];exact a4n (by decide +kernel)
 refine jE ?_;refine dS [0] (.op 1 (.op 0 .nil)) [2,3] C4 ?_;refine kA1 ?_;refine yf rfl (E1 Ek) (λfr=>a6X _ _ _) ?_;refine SR.nil rfl rfl ?_;refine xY B3 Eb λb38=>?_;refine G7 (k:=2) (sz:=4) (cs:=fl A3 [L7 [83,73,90,69],C9 e.s]) rfl (by decide) Up ?_;refine Z1 ?_;refine wT (.row (.slice (some ⟨b38,0,none⟩) 2 2) 97 4 2 (fl A3 [L7 [83,73,90,69],C9 e.s])::h) ?_;rw[we1];exact⟨_,_,_,rfl,rfl,rfl⟩
 refine Z2 ?_;refine wE ?_ ?_<;>intro c39
 obtain⟨x,hx⟩:=R0 hF (.inl c39);have hx0:e.l[0]?=some x:=by rw[hx];rfl
 have hxl:e.l.length=1:=by rw[hx];rfl
 have hxm:x∈e.l:=by rw[hx];exact List.Mem.head _
 have hcx:a1O e.l=a3i x:=by rw[hx];simp[a1O]
 have we1:A8 e=([C9 e.s,B9 [91]]++A8 x)++[B9 [93]]:=by rw[we,hx];simp[wr,c39,P3]
 have hwx:=X7 x (hF.part hxm);have hl1:2+(A8 x).length=([C9 e.s,B9 [91]]++A8 x).length:=by simp;omega
 have hl2:([C9 e.s,B9 [91]]++A8 x).length+1=(([C9 e.s,B9 [91]]++A8 x)++[B9 [93]]).length:=by simp
 refine jE ?_;refine dS [1,2,7] (.op 0 (.op 3 (.op 4 (.op 5 (.op 6 (.op 1 (.alt (.op 2 (.op 7 .nil)) (.op 7 (.op 2 .nil))))))))) [8,9,10,11,12] C4 ?_;refine kA3 ?_;refine yG rfl (D8 Q1.und Q1.size Q1.posz (Ev.tmp rfl) Ek Rr rfl (q:=0) (by omega)) ?_;refine kA1 ?_;refine yf rfl (E1 Ek) (λfr=>a0Z _ _ _) ?_;refine SR.alt ?_ ?_;refine sB rfl B3 λb43=>?_;refine C5 rfl rfl Ef (E1 Et) (λfr=>ih x hxm _ (TOk.fr ((hT.part hxm).mono Sb) fr) (hF.part hxm) (hW.part hxm) (by omega)) Lb λa48 c48=>?_
 refine SR.nil rfl rfl ?_;refine G7 (k:=2) (sz:=4) (cs:=fl A3 [C9 e.s,B9 [91]]) rfl (by decide) Up ?_;refine kR a48 λp48 q48 r48=>?_;refine xD B3 (Ev.tmp rfl) (Ev.tmp rfl) hl1 (Q8 (enc:=A3) [C9 e.s,B9 [91]] (A8 x)).symm λa49 c49=>?_
 refine xf (E1 Ek) (a0Z _ _ _) ?_;refine xY B3 Eb λb51=>?_;refine xD B3 (Ev.tmp rfl) (Ev.tmp rfl) hl2 (D4 (enc:=A3) _ (B9 [93])) λa52 c52=>?_
 refine Z1 ?_;refine wT (.row (.slice a52 (([C9 e.s,B9 [91]]++A8 x)++[B9 [93]]).length c52) 97 4 (([C9 e.s,B9 [91]]++A8 x)++[B9 [93]]).length (fl A3 (([C9 e.s,B9 [91]]++A8 x)++[B9 [93]]))::h) ?_;rw[we1];exact⟨_,_,_,rfl,rfl,rfl⟩
 refine C5 rfl rfl Ef (E1 Et) (λfr=>ih x hxm _ (TOk.fr ((hT.part hxm).mono Sb) fr) (hF.part hxm) (hW.part hxm) (by omega)) Lb λa48 c48=>?_;refine sB rfl B3 λb43=>?_
 refine SR.nil rfl rfl ?_;refine G7 (k:=2) (sz:=4) (cs:=fl A3 [C9 e.s,B9 [91]]) rfl (by decide) Up ?_;refine kR a48 λp48 q48 r48=>?_;refine xD B3 (Ev.tmp rfl) (Ev.tmp rfl) hl1 (Q8 (enc:=A3) [C9 e.s,B9 [91]] (A8 x)).symm λa49 c49=>?_
 refine xf (E1 Ek) (a0Z _ _ _) ?_;refine xY B3 Eb λb51=>?_;refine xD B3 (Ev.tmp rfl) (Ev.tmp rfl) hl2 (D4 (enc:=A3) _ (B9 [93])) λa52 c52=>?_
 refine Z1 ?_;refine wT (.row (.slice a52 (([C9 e.s,B9 [91]]++A8 x)++[B9 [93]]).length c52) 97 4 (([C9 e.s,B9 [91]]++A8 x)++[B9 [93]]).length (fl A3 (([C9 e.s,B9 [91]]++A8 x)++[B9 [93]]))::h) ?_;rw[we1];exact⟨_,_,_,rfl,rfl,rfl⟩
 refine Z2 ?_;refine wE ?_ ?_<;>intro c53
 obtain⟨x,hx⟩:=R0 hF (.inr (.inl c53));have hx0:e.l[0]?=some x:=by rw[hx];rfl
 have hxl:e.l.length=1:=by rw[hx];rfl
 have hxm:x∈e.l:=by rw[hx];exact List.Mem.head _
 have hcx:a1O e.l=a3i x:=by rw[hx];simp[a1O]
 have we1:A8 e=[G2 e.o]++B7 x:=by rw[we,hx];simp[wr,c53,P3,B7]
 have hox:(B7 x).length<=(A8 x).length+2:=a0y (par x.k,A8 x);have hwx:=X7 x (hF.part hxm);have hl1:1+(B7 x).length=([G2 e.o]++B7 x).length:=by simp;omega
 refine jE ?_;refine dS [2,3,8] (.op 0 (.op 1 (.op 4 (.op 5 (.op 6 (.op 7 (.op 2 (.alt (.op 3 (.op 8 .nil)) (.op 8 (.op 3 .nil)))))))))) [9,10] C4 ?_;refine kA4 ?_;refine yG rfl (D8 Q1.und Q1.size Q1.posz (Ev.tmp rfl) Ek Rr rfl (q:=0) (by omega)) ?_;refine kA1 ?_;refine yf rfl (E1 Et) (λfr=>b5x _ (by assumption) _ _) ?_;refine SR.alt ?_ ?_;refine sB rfl B3 λb58=>?_;refine C5 rfl rfl Ef (E1 Et) (λfr=>a3Z x (ih x hxm) _ (TOk.fr ((hT.part hxm).mono Sb) fr) (hF.part hxm) (hW.part hxm) (by omega)) Lb λa63 c63=>?_
 refine SR.nil rfl rfl ?_;refine G7 (k:=1) (sz:=4) (cs:=fl A3 [G2 e.o]) rfl (by decide) Up ?_;refine kR a63 λp63 q63 r63=>?_;refine xD B3 (Ev.tmp rfl) (Ev.tmp rfl) hl1 (Q8 (enc:=A3) [G2 e.o] (B7 x)).symm λa64 c64=>?_
 refine Z1 ?_;refine wT (.row (.slice a64 ([G2 e.o]++B7 x).length c64) 97 4 ([G2 e.o]++B7 x).length (fl A3 ([G2 e.o]++B7 x))::h) ?_;rw[we1];exact⟨_,_,_,rfl,rfl,rfl⟩
 refine C5 rfl rfl Ef (E1 Et) (λfr=>a3Z x (ih x hxm) _ (TOk.fr ((hT.part hxm).mono Sb) fr) (hF.part hxm) (hW.part hxm) (by omega)) Lb λa63 c63=>?_;refine sB rfl B3 λb58=>?_
 refine SR.nil rfl rfl ?_;refine G7 (k:=1) (sz:=4) (cs:=fl A3 [G2 e.o]) rfl (by decide) Up ?_;refine kR a63 λp63 q63 r63=>?_;refine xD B3 (Ev.tmp rfl) (Ev.tmp rfl) hl1 (Q8 (enc:=A3) [G2 e.o] (B7 x)).symm λa64 c64=>?_
 refine Z1 ?_;refine wT (.row (.slice a64 ([G2 e.o]++B7 x).length c64) 97 4 ([G2 e.o]++B7 x).length (fl A3 ([G2 e.o]++B7 x))::h) ?_;rw[we1];exact⟨_,_,_,rfl,rfl,rfl⟩
 refine Z2 ?_;refine wE ?_ ?_<;>intro c65
 obtain⟨x,hx⟩:=R0 hF (.inr (.inr c65));have hx0:e.l[0]?=some x:=by rw[hx];rfl
 have hxl:e.l.length=1:=by rw[hx];rfl
 have hxm:x∈e.l:=by rw[hx];exact List.Mem.head _
 have hcx:a1O e.l=a3i x:=by rw[hx];simp[a1O]
 have we1:A8 e=[L7 (a02 e.t)]++B7 x:=by rw[we,hx,b6J hF c65];simp[wr,c65,P3,B7]
 have hox:(B7 x).length<=(A8 x).length+2:=a0y (par x.k,A8 x);have hwx:=X7 x (hF.part hxm);have hl1:1+(B7 x).length=([L7 (a02 e.t)]++B7 x).length:=by simp;omega
 refine jE ?_;refine dS [2,3,4,9] (.op 0 (.op 1 (.op 5 (.op 6 (.op 7 (.op 8 (.op 2 (.op 3 (.alt (.op 4 (.op 9 .nil)) (.op 9 (.op 4 .nil))))))))))) [10,11] C4 ?_;refine kA4 ?_;refine yG rfl (D8 Q1.und Q1.size Q1.posz (Ev.tmp rfl) Ek Rr rfl (q:=0) (by omega)) ?_;refine kA1 ?_;refine yf rfl (E1 Et) (λfr=>c2K _ _ _) ?_;refine yf rfl (E1 Et) (λfr=>a6X _ _ _) ?_;refine SR.alt ?_ ?_;refine sB rfl B3 λb71=>?_;refine C5 rfl rfl Ef (E1 Et) (λfr=>a3Z x (ih x hxm) _ (TOk.fr ((hT.part hxm).mono Sb) fr) (hF.part hxm) (hW.part hxm) (by omega)) Lb λa76 c76=>?_
 refine SR.nil rfl rfl ?_;refine G7 (k:=1) (sz:=4) (cs:=fl A3 [L7 (a02 e.t)]) rfl (by decide) Up ?_;refine kR a76 λp76 q76 r76=>?_;refine xD B3 (Ev.tmp rfl) (Ev.tmp rfl) hl1 (Q8 (enc:=A3) [L7 (a02 e.t)] (B7 x)).symm λa77 c77=>?_
 refine Z1 ?_;refine wT (.row (.slice a77 ([L7 (a02 e.t)]++B7 x).length c77) 97 4 ([L7 (a02 e.t)]++B7 x).length (fl A3 ([L7 (a02 e.t)]++B7 x))::h) ?_;rw[we1];exact⟨_,_,_,rfl,rfl,rfl⟩
 refine C5 rfl rfl Ef (E1 Et) (λfr=>a3Z x (ih x hxm) _ (TOk.fr ((hT.part hxm).mono Sb) fr) (hF.part hxm) (hW.part hxm) (by omega)) Lb λa76 c76=>?_;refine sB rfl B3 λb71=>?_
 refine SR.nil rfl rfl ?_;refine G7 (k:=1) (sz:=4) (cs:=fl A3 [L7 (a02 e.t)]) rfl (by decide) Up ?_;refine kR a76 λp76 q76 r76=>?_;refine xD B3 (Ev.tmp rfl) (Ev.tmp rfl) hl1 (Q8 (enc:=A3) [L7 (a02 e.t)] (B7 x)).symm λa77 c77=>?_
 refine Z1 ?_;refine wT (.row (.slice a77 ([L7 (a02 e.t)]++B7 x).length c77) 97 4 ([L7 (a02 e.t)]++B7 x).length (fl A3 ([L7 (a02 e.t)]++B7 x))::h) ?_;rw[we1];exact⟨_,_,_,rfl,rfl,rfl⟩
 have hk7:e.k=7:=by rcases hkind with h|h|h|h|h|h|h|h|h<;>first|exact h|(exfalso;simp_all;done)
 obtain⟨x,y,hx⟩:=a4b hF hk7;have hx0:e.l[0]?=some x:=by rw[hx];rfl
 have hy0:e.l[1]?=some y:=by rw[hx];rfl
 have hxl:e.l.length=2:=by rw[hx];rfl
 have hxm:x∈e.l:=by rw[hx];exact List.Mem.head _
 have hym:y∈e.l:=by rw[hx];exact List.Mem.tail _ (List.Mem.head _)
 have hcx:a1O e.l=a3i x+a3i y:=by rw[hx];simp[a1O]
 have we1:A8 e=(B7 x++[G2 e.o])++B7 y:=by rw[we,hx];simp[wr,hk7,P3,B7]
 have hwx:=X7 x (hF.part hxm);have hwy:=X7 y (hF.part hym);have hox:(B7 x).length<=(A8 x).length+2:=a0y (par x.k,A8 x);have hoy:(B7 y).length<=(A8 y).length+2:=a0y (par y.k,A8 y);have hl3:(B7 x).length+1=(B7 x++[G2 e.o]).length:=(@List.length_append _ (B7 x) [G2 e.o]).symm;have hl4:(B7 x++[G2 e.o]).length+(B7 y).length=((B7 x++[G2 e.o])++B7 y).length:=(@List.length_append _ (B7 x++[G2 e.o]) (B7 y)).symm;refine Z0 ?_;refine dS [4,7,8,9] (.op 0 (.op 1 (.op 2 (.op 3 (.op 5 (.op 6 (.op 10 (.op 11 (.op 12 (.op 13 (.op 4 (.op 7 (.op 8 (.op 9 .nil)))))))))))))) [14,15,16] C4 ?_;refine kA2 ?_;refine yG rfl (D8 Q1.und Q1.size Q1.posz (Ev.tmp rfl) Ek Rr rfl (q:=0) (by omega)) ?_;refine kA5 ?_;refine yG rfl (D8 Q1.und Q1.size Q1.posz (Ev.tmp rfl) Ek Rr rfl (q:=1) (by omega)) ?_;refine kA1 ?_
 refine C5 rfl rfl Ef (E1 Et) (λfr=>a3Z x (ih x hxm) _ (TOk.fr ((hT.part hxm).mono Sb) fr) (hF.part hxm) (hW.part hxm) (by omega)) Lb λa82 c82=>?_;refine yf rfl (E1 Et) (λfr=>b5x _ (by assumption) _ _) ?_;refine sB rfl B3 λb86=>?_
 refine W4 rfl rfl B3 (Ev.tmp rfl) (Ev.tmp rfl) Rr On hl3 (D4 (enc:=A3) _ (G2 e.o)) (by omega) (by omega) (λv'=>Up) Lb λa87 c87=>?_;refine SR.nil rfl rfl ?_;refine xg (E1 Et) (a3Z y (ih y hym) _ ((hT.part hym).mono Sb) (hF.part hym) (hW.part hym) (by omega)) ?_;rintro _ _ ⟨a92,c92,k92,e92,rfl,rfl⟩;refine kR a92 λp92 q92 r92=>?_
 subst e92;refine xD B3 (Ev.tmp rfl) (Ev.tmp rfl) hl4 (Q8 (enc:=A3) (B7 x++[G2 e.o]) (B7 y)).symm λa93 c93=>?_;refine Z1 ?_;refine wT (.row (.slice a93 ((B7 x++[G2 e.o])++B7 y).length c93) 97 4 ((B7 x++[G2 e.o])++B7 y).length (fl A3 ((B7 x++[G2 e.o])++B7 y))::h) ?_;rw[we1];exact⟨_,_,_,rfl,rfl,rfl⟩
theorem tokensR_ct{m:View}(e:Ex)(h:List Res)(hT:TOk m h e)(hW:Wf e):CT prog 167 [exV e] h m
 (λv _ h'=>(F8 e=true/\∃a c,v=.tuple #[.slice a (A8 e).length c,.int .i64 0]/\h'=.row (.slice a (A8 e).length c) 97 4 (A8 e).length (fl A3 (A8 e))::h)\/(F8 e=false/\v=.tuple #[.slice none 0 0,.int .i64 2]/\h'=h)):=by
 refine cB [1,2,3,6] func167 λ_=>?_;refine xX λb1=>?_
 refine ZZ [2,1] ?_;refine xf (E1 Et) (mayR_ct e _ (hT.mono Sb) hW) ?_;refine Z1 ?_;refine wc ?_ ?_<;>intro c6
 have d6:F8 e=false:=by simpa using c6
 refine Z2 ?_;refine w2 h ?_;exact .inr ⟨d6,rfl,rfl⟩;have d6:F8 e=true:=by simpa using c6
 obtain⟨hF,hc⟩:=a46 d6;refine ZZ [0,1] ?_;refine xg (E1 Et) (c4w e _ (hT.mono Sb) hF hW (by omega)) ?_;rintro _ _ ⟨a8,c8,k8,e8,rfl,rfl⟩;refine kR a8 λp8 q8 r8=>?_;subst e8;refine Z2 ?_;refine w2 (.row (.slice a8 (A8 e).length c8) 97 4 (A8 e).length (fl A3 (A8 e))::h) ?_;exact .inl ⟨d6,_,_,rfl,rfl⟩
end
end Go.Proofs.YtkgfanibfkdbfaaGreatDoor.Xq
namespace Go.Proofs.YtkgfanibfkdbfaaGreatDoor
open Go.Proofs.Tryz
section
open Go.Eng Go.Pc Go.Sx Go
open Go.Xp hiding B C9
open Go.Ty (Ty Vr Tok eqT tyV I7 A3 B8 O4 zeroK M8 D3)
open Go.Lx (encB encB_len)
inductive Mv1(x:Res):List Res->List Res->Prop
 |stop {h:List Res}:Mv1 x h (x::h)
 |cons {y:Res} {s d:List Res} (q:Mv1 x s d):Mv1 x (y::s) (y::d)
theorem Mv1.perm{x:Res}{s d:List Res}(q:Mv1 x s d):(x::s).Perm d:=by
 induction q with
 |stop=>exact List.Perm.refl _
 |cons _ ih=>exact(List.Perm.swap _ _ _).trans (ih.cons _)
theorem I2(s:B)(hk:Go.Lx.key s=true)(h:List Res)(m:View):CT prog 42 [str s] h m (A7 h (O4 (A0 s))):=by
 have hw:A0 s=⟨2,0,s,0⟩:=by unfold A0;rw[if_pos hk]
 refine cB [0,2] func42 λ_=>?_;refine xW λb2=>?_
 refine ZZ [0,3,0] ?_;refine WC.ret (a2V (h':=h) (.inl rfl) rfl (G4 M4 rfl rfl rfl Me rfl) Vl Sb ?_);exact⟨by rw[hw];rfl,rfl⟩
theorem a7j(s:B)(h:List Res)(m:View):CT prog 85 [str s] h m (A7 h (O4 ⟨5,0,s,0⟩)):=by
 refine cB [0,2] func85 λ_=>?_;refine xW λb2=>?_
 refine ZZ [0,3,0] ?_;refine WC.ret (a2V (h':=h) (.inl rfl) rfl (G4 M4 rfl rfl rfl Me rfl) Vl Sb ?_);exact⟨rfl,rfl⟩
theorem c9t{s:B}(hk:Go.Lx.key s=false):A0 s=⟨5,0,s,0⟩:=by unfold A0;rw[if_neg (by rw[hk];decide)]
theorem U1(s:B)(hk:Go.Lx.key s=false)(h:List Res)(m:View):CT prog 85 [str s] h m (A7 h (O4 (A0 s))):=by rw[c9t hk];exact a7j s h m
theorem a1u(s:B)(h:List Res)(m:View):CT prog 91 [str s] h m (A7 h (O4 (E6 s))):=by
 refine cB [0,2] func91 λ_=>?_;refine xW λb2=>?_
 refine ZZ [0,3,0] ?_;refine WC.ret (a2V (h':=h) (.inl rfl) rfl (G4 M4 rfl rfl rfl Me rfl) Vl Sb ?_);exact⟨rfl,rfl⟩
theorem G3(a:Option Addr)(k c:Nat)(h:List Res)(m:View):CT prog 41 [.slice a k c] h m (A7 h (.slice a k c)):=by
 refine cB [0,2] func41 λ_=>?_;refine ZZ [1,2,0] ?_;refine wT h ?_;exact⟨rfl,rfl⟩
theorem J5(a:Option Addr)(k c:Nat)(ps:List (Sli Tok))(h:List Res)(m:View)(hs:Rd m h a k c 1 (fl ptE ps))(hp:∀p∈ps,Rd m h p.a p.l.length p.c 4 (fl A3 p.l))(hk:k<=10)(hb:∀p∈ps,p.l.length<=300000) :
 CT prog 86 [.slice a k c] h m (λv _ h'=>OwT h (ps.flatMap (·.l)) v h'):=by
 have hlen:=hs.lenF b3j (by decide);subst hlen;refine cB [0,2,3,4,8] func86 λ_=>?_;refine Z1 ?_;refine WL.addNil 97 4 ?_;refine ZZ [1,1,0] ?_;refine B1 [0] rfl (λμ F' h'=>∃a3:Option Addr,∃c3:Nat,∃r:List Tok,∃j:Nat,((j<=ps.length/\r.length<=j*300000)/\r=(ps.take j).flatMap (·.l))/\ps.length-j=μ/\F'=[(3,.slice a3 r.length c3),(4,.int .i64 j)]/\.row (.slice a3 r.length c3) 97 4 r.length (fl A3 r)::h=h') (ps.length-0) [(3,.slice none ([]).length 0),(4,.int .i64 0)] (h0:=.row (.slice none ([]).length 0) 97 4 ([]).length (fl A3 ([]))::h) ?_ Sb ⟨none,0,[],0,⟨⟨by omega,by simp⟩,rfl⟩,rfl,rfl,rfl⟩ ?_;exact Su;rintro _ _ _ ⟨a3,c3,r,j,⟨⟨hj,hr⟩,hJ⟩,rfl,rfl,rfl⟩;refine B2 rfl ?_;refine Z4 ?_;refine wD ?_ ?_<;>intro c8
 obtain⟨p,hx⟩:=A5 (l:=ps) (k:=j) (by omega);have hbp:=hb p (List.mem_of_getElem? hx);have hpr:=hp p (List.mem_of_getElem? hx);have htk:(ps.take (j+1)).flatMap (·.l)=(ps.take j).flatMap (·.l)++p.l:=by rw[U5 hx,List.flatMap_append];simp
 refine ZZ [0,5] ?_;have hln:(r++p.l).length=r.length+p.l.length:=List.length_append;refine xD B3 (Ev.tmp rfl) (Ev.tmp rfl) (show r.length+p.l.length=(r++p.l).length from hln.symm) (Q8 (enc:=A3) r p.l).symm λa16 c16=>?_;refine ZZ [1,3] ?_;refine WL.nil (A6 (ps.length-(j+1)) [(3,.slice a16 (r++p.l).length c16),(4,.int .i64 (j+1))] (h'':=.row (.slice a16 (r++p.l).length c16) 97 4 (r++p.l).length (fl A3 (r++p.l))::h) (by omega) ?_ Su Sb ⟨a16,c16,r++p.l,j+1,⟨⟨by omega,by omega⟩,by rw[htk,hJ]⟩,rfl,rfl,rfl⟩);exact Su;rw[List.take_of_length_le (by omega)]at hJ;subst hJ;refine ZZ [0,2,0] ?_;refine wT (.row (.slice a3 (ps.flatMap (·.l)).length c3) 97 4 (ps.flatMap (·.l)).length (fl A3 (ps.flatMap (·.l)))::h) ?_;exact⟨_,_,_,rfl,rfl,rfl⟩
theorem N1{m:View}(e:Ex)(h:List Res)(hE:EOk m h e):CT prog 89 [exV e] h m (λv _ h'=>OwT h (C2 e) v h'):=by
 refine cB [1,2,3] func89 λ_=>?_;refine xX λb1=>?_
 refine ZZ [1,1] ?_;refine xg (E1 Et) (b7T (Xq.tokensR_ct e _ (hE.t.mono Sb) hE.w)) ?_;rintro _ _ ⟨a7,c7,rfl,rfl⟩;refine ZZ [5,2,0] ?_;refine wT (.row (.slice a7 (C2 e).length c7) 97 4 (C2 e).length (fl A3 (C2 e))::h) ?_;exact⟨_,_,_,rfl,rfl,rfl⟩
theorem a4w{m:View}(t:Ty)(h:List Res)(hs:t.proto.length<=9223372036854775807):CT prog 87 [tyV t] h m (λv _ h'=>OwT h (G5 t) v h'):=by
 refine cB [1,2,3] func87 λ_=>?_;refine xX λb1=>?_
 refine ZZ [1,1] ?_;refine xg (E1 Et) (Ty9.tokensR_ct t _ _ hs) ?_;rintro _ _ ⟨a7,c7,rfl,rfl⟩;refine ZZ [5,2,0] ?_;refine wT (.row (.slice a7 (G5 t).length c7) 97 4 (G5 t).length (fl A3 (G5 t))::h) ?_;exact⟨_,_,_,rfl,rfl,rfl⟩
theorem R4{m:View}(sep:B)(a:Option Addr)(k c:Nat)(l:List Ex)(h:List Res)(hs:Rd m h a k c 6 (fl exE l))(hk:k<=3000)(ht:∀x∈l,EOk m h x) :
 CT prog 93 [.slice a k c,str sep] h m (λv _ h'=>OwT h (B6 sep C2 l) v h'):=by
 have hlen:=hs.lenF a1h (by decide);subst hlen;refine cB [0,1,4,5,6,10] func93 λ_=>?_;refine Z1 ?_;refine WL.addNil 97 4 ?_;refine ZZ [1,1,0] ?_;refine B1 [0,1] rfl (λμ F' h'=>∃a7:Option Addr,∃c7:Nat,∃r:List Tok,∃j:Nat,((j<=l.length/\r.length<=j*3001)/\r=B6 sep C2 (l.take j))/\l.length-j=μ/\F'=[(5,.slice a7 r.length c7),(6,.int .i64 j)]/\.row (.slice a7 r.length c7) 97 4 r.length (fl A3 r)::h=h') (l.length-0) [(5,.slice none ([]).length 0),(6,.int .i64 0)] (h0:=.row (.slice none ([]).length 0) 97 4 ([]).length (fl A3 ([]))::h) ?_ Sb ⟨none,0,[],0,⟨⟨by omega,by simp⟩,rfl⟩,rfl,rfl,rfl⟩ ?_;exact Su;rintro _ _ _ ⟨a7,c7,r,j,⟨⟨hj,hr⟩,hJ⟩,rfl,rfl,rfl⟩;refine B2 rfl ?_;refine Z4 ?_;refine wD ?_ ?_<;>intro c10
 obtain⟨x,hx⟩:=A5 (l:=l) (k:=j) (by omega);have hxo:=ht x (List.mem_of_getElem? hx);have hfx:=H1 x;have htk:=U5 hx;have h3:j*3001<=9000000:=by omega
 refine Z0 ?_;refine kP2 [0,1,5,6,14] ?_;refine F4 KKh [0,1,6] rfl (λF' h'=>∃a8:Option Addr,∃c8:Nat,∃r2:List Tok,(r2.length<=r.length+1/\r2++C2 x=B6 sep C2 (l.take (j+1)))/\F'=[(5,.slice a8 r2.length c8)]/\.row (.slice a8 r2.length c8) 97 4 r2.length (fl A3 r2)::h=h') ?_ ?_;refine jE ?_;refine wD ?_ ?_<;>intro c14
 have hln:(r++[(⟨5,0,sep,0⟩:Tok)]).length=r.length+1:=List.length_append;refine kA2 ?_;refine xf (E1 Et) (a7j _ _ _) ?_;refine xY B3 Eb λb18=>?_;refine xD B3 (Ev.tmp rfl) (Ev.tmp rfl) (show r.length+1=(r++[(⟨5,0,sep,0⟩:Tok)]).length by simp) (D4 (enc:=A3) _ (⟨5,0,sep,0⟩)) λa19 c19=>?_
 refine kA1 ?_;refine WL.nil (B4 [(5,.slice a19 (r++[(⟨5,0,sep,0⟩:Tok)]).length c19)] (h'':=.row (.slice a19 (r++[(⟨5,0,sep,0⟩:Tok)]).length c19) 97 4 (r++[(⟨5,0,sep,0⟩:Tok)]).length (fl A3 (r++[(⟨5,0,sep,0⟩:Tok)]))::h) ?_ Su Sb ⟨a19,c19,r++[(⟨5,0,sep,0⟩:Tok)],⟨by omega,by rw[htk,V6 sep C2 _ x (by intro q;have:=congrArg List.length q;rw[List.length_take]at this;simp only[List.length_nil]at this;omega),<-hJ,List.append_assoc];rfl⟩,rfl,rfl⟩);exact Su;have hj0:j=0:=by omega
 subst hj0;have hr0:r=[]:=hJ;subst hr0;refine WC.skip (B4 [(5,.slice a7 ([]).length c7)] (h'':=.row (.slice a7 ([]).length c7) 97 4 ([]).length (fl A3 ([]))::h) ?_ Su Sb ⟨a7,c7,[],⟨by simp,by rw[htk];rfl⟩,rfl,rfl⟩);exact Su;rintro _ _ ⟨a8,c8,r2,⟨hr2,hJ2⟩,rfl,rfl⟩;refine B2 rfl ?_;refine kA5 ?_;refine xg (E1 Et) (N1 x _ (hxo.mono Sb)) ?_;rintro _ _ ⟨a25,c25,k25,e25,rfl,rfl⟩;refine kR a25 λp25 q25 r25=>?_;have hln:(r2++C2 x).length=r2.length+k25:=by rw[List.length_append,e25]
 refine xD B3 (Ev.tmp rfl) (Ev.tmp rfl) (show r2.length+k25=(r2++C2 x).length from hln.symm) (Q8 (enc:=A3) r2 (C2 x)).symm λa26 c26=>?_;refine ZZ [1,3] ?_;refine WL.nil (A6 (l.length-(j+1)) [(5,.slice a26 (r2++C2 x).length c26),(6,.int .i64 (j+1))] (h'':=.row (.slice a26 (r2++C2 x).length c26) 97 4 (r2++C2 x).length (fl A3 (r2++C2 x))::h) (by omega) ?_ Su Sb ⟨a26,c26,r2++C2 x,j+1,⟨⟨by omega,by omega⟩,hJ2⟩,rfl,rfl,rfl⟩);exact Su;rw[List.take_of_length_le (by omega)]at hJ;subst hJ;refine ZZ [0,2,0] ?_;refine wT (.row (.slice a7 (B6 sep C2 l).length c7) 97 4 (B6 sep C2 l).length (fl A3 (B6 sep C2 l))::h) ?_;exact⟨_,_,_,rfl,rfl,rfl⟩
theorem X5(a:Option Addr)(k c:Nat)(l:List B)(h:List Res)(m:View)(hs:Rd m h a k c 1 (fl encB l))(hk:k<=3000) :
 CT prog 88 [.slice a k c] h m (λv _ h'=>OwT h (D0 l) v h'):=by
 have hlen:=hs.lenF encB_len (by decide);subst hlen;refine cB [0,2,3,4,8] func88 λ_=>?_;refine Z1 ?_;refine WL.addNil 97 4 ?_;refine ZZ [1,1,0] ?_;refine B1 [0] rfl (λμ F' h'=>∃a7:Option Addr,∃c7:Nat,∃r:List Tok,∃j:Nat,((j<=l.length/\r.length<=j*3001)/\r=D0 (l.take j))/\l.length-j=μ/\F'=[(3,.slice a7 r.length c7),(4,.int .i64 j)]/\.row (.slice a7 r.length c7) 97 4 r.length (fl A3 r)::h=h') (l.length-0) [(3,.slice none ([]).length 0),(4,.int .i64 0)] (h0:=.row (.slice none ([]).length 0) 97 4 ([]).length (fl A3 ([]))::h) ?_ Sb ⟨none,0,[],0,⟨⟨by omega,by simp⟩,rfl⟩,rfl,rfl,rfl⟩ ?_;exact Su;rintro _ _ _ ⟨a7,c7,r,j,⟨⟨hj,hr⟩,hJ⟩,rfl,rfl,rfl⟩;refine B2 rfl ?_;refine Z4 ?_;refine wD ?_ ?_<;>intro c8
 obtain⟨x,hx⟩:=A5 (l:=l) (k:=j) (by omega);have htk:=U5 hx;have h3:j*3001<=9000000:=by omega
 refine Z0 ?_;refine kP2 [0,3,4,12] ?_;refine F4 KKh [0,4] rfl (λF' h'=>∃a8:Option Addr,∃c8:Nat,∃r2:List Tok,(r2.length<=r.length+1/\r2++[E6 x]=D0 (l.take (j+1)))/\F'=[(3,.slice a8 r2.length c8)]/\.row (.slice a8 r2.length c8) 97 4 r2.length (fl A3 r2)::h=h') ?_ ?_;refine jE ?_;refine wD ?_ ?_<;>intro c12
 have hln:(r++[(⟨5,0,[44],0⟩:Tok)]).length=r.length+1:=List.length_append;refine kA1 ?_;refine xf (E1 Ek) (a7j _ _ _) ?_;refine xY B3 Eb λb15=>?_;refine xD B3 (Ev.tmp rfl) (Ev.tmp rfl) (show r.length+1=(r++[(⟨5,0,[44],0⟩:Tok)]).length by simp) (D4 (enc:=A3) _ (⟨5,0,[44],0⟩)) λa16 c16=>?_
 refine kA1 ?_;refine WL.nil (B4 [(3,.slice a16 (r++[(⟨5,0,[44],0⟩:Tok)]).length c16)] (h'':=.row (.slice a16 (r++[(⟨5,0,[44],0⟩:Tok)]).length c16) 97 4 (r++[(⟨5,0,[44],0⟩:Tok)]).length (fl A3 (r++[(⟨5,0,[44],0⟩:Tok)]))::h) ?_ Su Sb ⟨a16,c16,r++[(⟨5,0,[44],0⟩:Tok)],⟨by omega,by unfold D0 at *;rw[htk,V6 [44] _ _ x (by intro q;have:=congrArg List.length q;rw[List.length_take]at this;simp only[List.length_nil]at this;omega),<-hJ,List.append_assoc];rfl⟩,rfl,rfl⟩);exact Su;have hj0:j=0:=by omega
 subst hj0;have hr0:r=[]:=hJ;subst hr0;refine WC.skip (B4 [(3,.slice a7 ([]).length c7)] (h'':=.row (.slice a7 ([]).length c7) 97 4 ([]).length (fl A3 ([]))::h) ?_ Su Sb ⟨a7,c7,[],⟨by simp,by rw[htk];rfl⟩,rfl,rfl⟩);exact Su;rintro _ _ ⟨a8,c8,r2,⟨hr2,hJ2⟩,rfl,rfl⟩;refine B2 rfl ?_;refine kA5 ?_;refine xf (E1 Et) (a1u _ _ _) ?_;refine xY B3 Eb λb23=>?_;have hln:(r2++[E6 x]).length=r2.length+1:=List.length_append;refine xD B3 (Ev.tmp rfl) (Ev.tmp rfl) (show r2.length+1=(r2++[E6 x]).length from hln.symm) (D4 (enc:=A3) _ (E6 x)) λa24 c24=>?_
 refine ZZ [1,3] ?_;refine WL.nil (A6 (l.length-(j+1)) [(3,.slice a24 (r2++[E6 x]).length c24),(4,.int .i64 (j+1))] (h'':=.row (.slice a24 (r2++[E6 x]).length c24) 97 4 (r2++[E6 x]).length (fl A3 (r2++[E6 x]))::h) (by omega) ?_ Su Sb ⟨a24,c24,r2++[E6 x],j+1,⟨⟨by omega,by omega⟩,hJ2⟩,rfl,rfl,rfl⟩);exact Su;rw[List.take_of_length_le (by omega)]at hJ;subst hJ;refine ZZ [0,2,0] ?_;refine wT (.row (.slice a7 (D0 l).length c7) 97 4 (D0 l).length (fl A3 (D0 l))::h) ?_;exact⟨_,_,_,rfl,rfl,rfl⟩
def a2L(k:Int):List Tok:=[⟨2,0,Go.Ty.wordR k,0⟩]
theorem c0e{k:Int}(h:Go.Ty.is k=true):a2L k=L9 k:=by rcases Go.Ty.is_three h with rfl|rfl|rfl<;>decide +kernel
theorem a8r{α:Type}{sep:B}{f g:α->List Tok}:∀{l:List α},(∀x∈l,f x=g x)->B6 sep f l=B6 sep g l
 | [],_=>rfl
 | [x],h=>h x (List.Mem.head _)
 |x::y::r,h=>by
  show f x++⟨5,0,sep,0⟩::B6 sep f (y::r)=g x++⟨5,0,sep,0⟩::B6 sep g (y::r);rw[h x (List.Mem.head _),a8r λz hz=>h z (List.Mem.tail _ hz)]
theorem b6l(a:Option Addr)(k c:Nat)(l:List Int)(h:List Res)(m:View)(hs:Rd m h a k c 1 (fl M8 l))(hk:k<=3000) :
 CT prog 90 [.slice a k c] h m (λv _ h'=>OwT h (B6 [59] a2L l) v h'):=by
 have hlen:=hs.lenF D3 (by decide);subst hlen;refine cB [0,2,3,4,8] func90 λ_=>?_;refine Z1 ?_;refine WL.addNil 97 4 ?_;refine ZZ [1,1,0] ?_;refine B1 [0] rfl (λμ F' h'=>∃a7:Option Addr,∃c7:Nat,∃r:List Tok,∃j:Nat,((j<=l.length/\r.length<=j*3001)/\r=B6 [59] a2L (l.take j))/\l.length-j=μ/\F'=[(3,.slice a7 r.length c7),(4,.int .i64 j)]/\.row (.slice a7 r.length c7) 97 4 r.length (fl A3 r)::h=h') (l.length-0) [(3,.slice none ([]).length 0),(4,.int .i64 0)] (h0:=.row (.slice none ([]).length 0) 97 4 ([]).length (fl A3 ([]))::h) ?_ Sb ⟨none,0,[],0,⟨⟨by omega,by simp⟩,rfl⟩,rfl,rfl,rfl⟩ ?_;exact Su;rintro _ _ _ ⟨a7,c7,r,j,⟨⟨hj,hr⟩,hJ⟩,rfl,rfl,rfl⟩;refine B2 rfl ?_;refine Z4 ?_;refine wD ?_ ?_<;>intro c8
 obtain⟨x,hx⟩:=A5 (l:=l) (k:=j) (by omega);have htk:=U5 hx;have h3:j*3001<=9000000:=by omega
 refine Z0 ?_;refine kP2 [0,3,4,12] ?_;refine F4 KKh [0,4] rfl (λF' h'=>∃a8:Option Addr,∃c8:Nat,∃r2:List Tok,(r2.length<=r.length+1/\r2++a2L x=B6 [59] a2L (l.take (j+1)))/\F'=[(3,.slice a8 r2.length c8)]/\.row (.slice a8 r2.length c8) 97 4 r2.length (fl A3 r2)::h=h') ?_ ?_;refine jE ?_;refine wD ?_ ?_<;>intro c12
 have hln:(r++[(⟨5,0,[59],0⟩:Tok)]).length=r.length+1:=List.length_append;refine kA1 ?_;refine xf (E1 Ek) (a7j _ _ _) ?_;refine xY B3 Eb λb15=>?_;refine xD B3 (Ev.tmp rfl) (Ev.tmp rfl) (show r.length+1=(r++[(⟨5,0,[59],0⟩:Tok)]).length by simp) (D4 (enc:=A3) _ (⟨5,0,[59],0⟩)) λa16 c16=>?_
 refine kA1 ?_;refine WL.nil (B4 [(3,.slice a16 (r++[(⟨5,0,[59],0⟩:Tok)]).length c16)] (h'':=.row (.slice a16 (r++[(⟨5,0,[59],0⟩:Tok)]).length c16) 97 4 (r++[(⟨5,0,[59],0⟩:Tok)]).length (fl A3 (r++[(⟨5,0,[59],0⟩:Tok)]))::h) ?_ Su Sb ⟨a16,c16,r++[(⟨5,0,[59],0⟩:Tok)],⟨by omega,by rw[htk,V6 [59] _ _ x (by intro q;have:=congrArg List.length q;rw[List.length_take]at this;simp only[List.length_nil]at this;omega),<-hJ,List.append_assoc];rfl⟩,rfl,rfl⟩);exact Su;have hj0:j=0:=by omega
 subst hj0;have hr0:r=[]:=hJ;subst hr0;refine WC.skip (B4 [(3,.slice a7 ([]).length c7)] (h'':=.row (.slice a7 ([]).length c7) 97 4 ([]).length (fl A3 ([]))::h) ?_ Su Sb ⟨a7,c7,[],⟨by simp,by rw[htk];rfl⟩,rfl,rfl⟩);exact Su;rintro _ _ ⟨a8,c8,r2,⟨hr2,hJ2⟩,rfl,rfl⟩;refine B2 rfl ?_;refine kA5 ?_;refine xf (E1 Et) (Ty9.wordR9_ct _ _ _) ?_;refine xY B3 Eb λb23=>?_;have hln:(r2++a2L x).length=r2.length+1:=List.length_append;refine xD B3 (Ev.tmp rfl) (Ev.tmp rfl) (show r2.length+1=(r2++a2L x).length from hln.symm) (D4 (enc:=A3) _ (⟨2,0,Go.Ty.wordR x,0⟩)) λa24 c24=>?_
 refine ZZ [1,3] ?_;refine WL.nil (A6 (l.length-(j+1)) [(3,.slice a24 (r2++a2L x).length c24),(4,.int .i64 (j+1))] (h'':=.row (.slice a24 (r2++a2L x).length c24) 97 4 (r2++a2L x).length (fl A3 (r2++a2L x))::h) (by omega) ?_ Su Sb ⟨a24,c24,r2++a2L x,j+1,⟨⟨by omega,by omega⟩,hJ2⟩,rfl,rfl,rfl⟩);exact Su;rw[List.take_of_length_le (by omega)]at hJ;subst hJ;refine ZZ [0,2,0] ?_;refine wT (.row (.slice a7 (B6 [59] a2L l).length c7) 97 4 (B6 [59] a2L l).length (fl A3 (B6 [59] a2L l))::h) ?_;exact⟨_,_,_,rfl,rfl,rfl⟩
theorem a9d(a:Option Addr)(k c:Nat)(l:List Int)(h:List Res)(m:View)(hs:Rd m h a k c 1 (fl M8 l))(hk:k<=3000)(hi:∀x∈l,Go.Ty.is x=true) :
 CT prog 90 [.slice a k c] h m (λv _ h'=>OwT h (B6 [59] L9 l) v h'):=by
 rw[<-a8r λx hx=>c0e (hi x hx)];exact b6l a k c l h m hs hk
theorem b0e{m:View}(s:B)(hw:Go.Lx.key s=false)(a:Option Addr)(k c:Nat)(l:List Tok)(h:List Res)(hs:Rd m h a k c 4 (fl A3 l))(hk:k<=300000):CT prog 92 [str s,.slice a k c] h m (λv _ h'=>OwT h (M9 s l) v h'):=by
 have hlen:=hs.lenF B8 (by decide);subst hlen;refine cB [0,1,4,7] func92 λ_=>?_;refine ZZ [1,3,0] ?_;refine wE ?_ ?_<;>intro c7
 have e7:M9 s l=[]:=by unfold M9;rw[if_pos (by omega)]
 refine WC.addNil 97 4 ?_;refine Z1 ?_;refine wT (.row (.slice none 0 0) 97 4 0 (fl A3 [])::h) ?_;rw[e7];exact⟨none,0,0,rfl,rfl,rfl⟩
 have e7:M9 s l=[A0 s]++(l++[]):=by unfold M9;rw[if_neg (by omega),List.append_nil];rfl
 refine ZZ [0,1] ?_;refine xf (E1 Et) (U1 _ hw _ _) ?_;refine xY B3 Eb λb10=>?_;refine xf (E1 Et) (G3 _ _ _ _ _) ?_;refine kA1 ?_;refine xY H9 Eb λb13=>?_
 refine xJ (E1 Et) (J5 _ 2 _ [⟨some ⟨b10,0,none⟩,1,[A0 s]⟩,⟨a,c,l⟩] _ _ (Rd.ofPt rfl (by decide) Me) (A9 (Rd.ofPt rfl (show 1<=9223372036854775807 by decide) Me) (A9 (hs.mono Vl Sb) F6)) (by decide) (A9 (by simp) (A9 hk F6))) λa14 c14=>?_;refine Z1 ?_;refine wT (.row (.slice a14 _ c14) 97 4 _ (fl A3 _)::h) ?_;exact⟨_,_,_,congrArg List.length e7.symm,rfl,by rw[e7];rfl⟩
theorem a4j{m:View}(r:Rp)(b k:Nat)(ws:List Tok)(h:List Res)(hr:Rs m h r)(hk:ws.length=k)(hk2:k<=10):CT prog 94 [rpV r,.slice (some ⟨b,0,none⟩) k k] (.row (.slice (some ⟨b,0,none⟩) k k) 97 4 k (fl A3 ws)::h) m (λv _ h'=>OwT h (ws++a1q r) v h'):=by
 subst hk;have hB:=hr.b;have hC:=hr.c;have t1:=H1 r.base;have t2:=H1 r.count;refine cB [1,2,4,7] func94 λ_=>?_;refine xX λb2=>?_
 refine ZZ [1,2] ?_;refine xG (H3 Et Ek) ?_;refine Z0 ?_;refine wc ?_ ?_<;>intro c7
 have c7:r.name=[]:=by simpa using c7
 have e7:ws++a1q r=ws:=by unfold a1q;rw[if_pos c7,List.append_nil]
 refine Z2 ?_;refine wT (.row (.slice (some ⟨b,0,none⟩) ws.length ws.length) 97 4 ws.length (fl A3 ws)::h) ?_;rw[e7];exact⟨_,_,_,rfl,rfl,rfl⟩
 have c7:¬(r.name=[]):=by simpa using c7
 have e7:ws++a1q r=ws++([E6 r.name,A0 [61]]++(C2 r.base++([A0 [70,79,82]]++(C2 r.count++[])))):=by unfold a1q;rw[if_neg c7];simp only[List.append_assoc,List.append_nil];rfl
 refine Q7 (a:=some ⟨b,0,none⟩) Me λp0 q0 r0=>?_;refine Z0 ?_;refine F3 [3,4,5,6,9,10,11,12] (.op 0 (.op 1 (.op 2 (.op 7 (.op 8 (.op 13 (.op 14 (.op 3 (.op 4 (.op 5 (.op 6 (.op 9 (.op 10 (.op 11 (.op 12 .nil))))))))))))))) [15,16,17,18] _ [] C4 (λ_ _ _ _ _ h=>h) [0] (by kernel_rfl) ?_;refine kA7 ?_;refine yf rfl (E1 Et) (λfr=>a1u _ _ _) ?_;refine yf rfl (E1 Ek) (λfr=>U1 _ (by decide +kernel) _ _) ?_;refine sB rfl B3 λb14=>?_
 refine yf rfl (E1 Et) (λfr=>G3 _ _ _ _ _) ?_;refine C5 rfl rfl Ef (E1 Et) (λfr=>N1 r.base _ (hB.mono Sb)) Lb λa18 c18=>?_;refine yf rfl (E1 Ek) (λfr=>I2 _ (by decide +kernel) _ _) ?_;refine sB rfl B3 λb20=>?_
 refine yf rfl (E1 Et) (λfr=>G3 _ _ _ _ _) ?_;refine SR.nil rfl rfl ?_;refine xJ (E1 Et) (N1 r.count _ (hC.mono Sb)) λa24 c24=>?_;refine kR a18 λp18 q18 r18=>?_
 refine kR a24 λp24 q24 r24=>?_;refine xY H9 Eb λb25=>?_
 refine xJ (E1 Et) (J5 _ 5 _ [⟨some ⟨b,0,none⟩,ws.length,ws⟩,⟨some ⟨b14,0,none⟩,2,[E6 r.name,A0 [61]]⟩,⟨a18,c18,C2 r.base⟩,⟨some ⟨b20,0,none⟩,1,[A0 [70,79,82]]⟩,⟨a24,c24,C2 r.count⟩] _ _ (Rd.ofPt rfl (by decide) Me) (A9 (iR r0 p0 q0) (A9 (Rd.ofPt rfl (show 2<=9223372036854775807 by decide) Me) (A9 (iR r18 p18 q18) (A9 (Rd.ofPt rfl (show 1<=9223372036854775807 by decide) Me) (A9 (iR r24 p24 q24) F6))))) (by decide) (A9 (Nat.le_trans hk2 (by decide)) (A9 (by simp) (A9 (Nat.le_trans t1 (by decide)) (A9 (by simp) (A9 (Nat.le_trans t2 (by decide)) F6)))))) λa26 c26=>?_;refine Z1 ?_;refine wT (.row (.slice a26 _ c26) 97 4 _ (fl A3 _)::h) ?_;exact⟨_,_,_,congrArg List.length e7.symm,rfl,by rw[e7];rfl⟩
end
section
open Go.Eng Go.Pc Go.Sx Go
open Go.Xp hiding B C9
open Go.Ty (Ty Vr Tok eqT tyV I7 A3 B8 O4 zeroK M8 D3 encV D2 prL prV PrOk VOk mayPr hdV)
open Go.Lx (encB encB_len textO)
theorem c7P{p:Pr}(hv:Vld p)(hk:p.k=6\/p.k=15\/p.k=16):∃x,p.ex.l=[x]:=by
 have h:=hv.own.en;have e:(B5 p.k).1.e0=1/\(B5 p.k).1.e1=1:=by rcases hk with q|q|q<;>rw[q]<;>exact⟨rfl,rfl⟩
 rw[e.1,e.2]at h;match hl:p.ex.l,h with
 | [x],_=>exact⟨x,rfl⟩
 | [],h=>exact absurd h.1 (by simp)
 |_::_::_,h=>exact absurd h.2 (by simp only[List.length_cons];omega)
theorem b6Q{m:View}(p:Pr)(h:List Res)(hO:P1 m h p)(hv:Vld p):CT prog 40 [prV p] h m (λv _ h'=>OwT h (fT p) v h'):=by
 have hV:=hv.own;have hkk:=(a0M p.k).2.2 hV.kd;have hTg:p.tg.l.length<=9:=by have h1:=hV.tn.2;have h2:=(a0M p.k).1;omega
 have hEx:p.ex.l.length<=9:=by have h1:=hV.en.2;have h2:=(a0M p.k).2.1;omega
 have hone:=c7P hv;refine cB [1,2,4,5,10,15,28,41,54,70,81,88,95,101,107,114,122,129,141] func40 λ_=>?_;refine xX λb1=>?_
 refine ZZ [1,2,2,0] ?_;refine wE ?_ ?_<;>intro c5
 have e9:fT p=_:=J1.eq_1 ..;rw[if_pos c5]at e9;refine j0 ?_;refine xf (E1 Ek) (I2 _ (by decide +kernel) _ _) ?_;refine xY B3 Eb λb8=>?_
 refine G7 (k:=1) (sz:=4) (cs:=fl A3 [A0 [83,75,73,80]]) rfl (by decide) Up ?_;refine xf (E1 Et) (G3 _ _ _ _ _) ?_;refine Z1 ?_;refine wT (.row (.slice (some ⟨b8,0,none⟩) 1 1) 97 4 1 (fl A3 [A0 [83,75,73,80]])::h) ?_;rw[e9];exact⟨_,_,_,rfl,rfl,rfl⟩
 refine Z2 ?_;refine wE ?_ ?_<;>intro c10
 have e9:fT p=_:=J1.eq_1 ..;rw[if_neg c5,if_pos c10]at e9;refine j0 ?_;refine xf (E1 Ek) (I2 _ (by decide +kernel) _ _) ?_;refine xY B3 Eb λb13=>?_
 refine G7 (k:=1) (sz:=4) (cs:=fl A3 [A0 [83,84,79,80]]) rfl (by decide) Up ?_;refine xf (E1 Et) (G3 _ _ _ _ _) ?_;refine Z1 ?_;refine wT (.row (.slice (some ⟨b13,0,none⟩) 1 1) 97 4 1 (fl A3 [A0 [83,84,79,80]])::h) ?_;rw[e9];exact⟨_,_,_,rfl,rfl,rfl⟩
 refine Z2 ?_;refine wE ?_ ?_<;>intro c15
 have e9:fT p=_:=J1.eq_1 ..;rw[if_neg c5,if_neg c10,if_pos c15]at e9;have e9:fT p=(B6 [44] C2 p.tg.l)++([A0 [58,61]]++((B6 [44] C2 p.ex.l)++[])):=by rw[e9];simp
 refine jE ?_;refine dS [2,3,4,5] (.op 0 (.op 1 (.op 6 (.op 7 (.op 2 (.op 3 (.op 4 (.op 5 .nil)))))))) [8,9,10,11] C4 ?_;refine kA4 ?_;refine C5 rfl rfl Ef (E2 Et Ek) (λfr=>R4 [44] _ _ _ p.tg.l _ (hO.tg.rd.mono Vl Sb) (by omega) (λx hx=>(hO.tg.ok x hx).mono Sb)) Lb λa19 c19=>?_;refine yf rfl (E1 Ek) (λfr=>U1 _ (by decide +kernel) _ _) ?_;refine sB rfl B3 λb21=>?_
 refine yf rfl (E1 Et) (λfr=>G3 _ _ _ _ _) ?_;refine SR.nil rfl rfl ?_;refine xJ (E2 Et Ek) (R4 [44] _ _ _ p.ex.l _ (hO.ex.rd.mono Vl Sb) (by omega) (λx hx=>(hO.ex.ok x hx).mono Sb)) λa25 c25=>?_;refine xY H9 Eb λb26=>?_
 refine kR a19 λp19 q19 r19=>?_;refine kR a25 λp25 q25 r25=>?_
 refine xJ (E1 Et) (J5 _ 3 _ [⟨a19,c19,B6 [44] C2 p.tg.l⟩,⟨some ⟨b21,0,none⟩,1,[A0 [58,61]]⟩,⟨a25,c25,B6 [44] C2 p.ex.l⟩] _ _ (Rd.ofPt rfl (by decide) Me) (A9 (iR r19 p19 q19) (A9 (Rd.ofPt rfl (show 1<=9223372036854775807 by decide) Me) (A9 (iR r25 p25 q25) F6))) (by decide) (A9 (Nat.le_trans (R1 [44] p.tg.l (by omega)) (by decide)) (A9 (by simp) (A9 (Nat.le_trans (R1 [44] p.ex.l (by omega)) (by decide)) F6)))) λa27 c27=>?_;refine Z1 ?_;refine wT (.row (.slice a27 _ c27) 97 4 _ (fl A3 _)::h) ?_;exact⟨_,_,_,congrArg List.length e9.symm,rfl,by rw[e9]<;>rfl⟩;refine Z2 ?_;refine wE ?_ ?_<;>intro c28
 have e9:fT p=_:=J1.eq_1 ..;rw[if_neg c5,if_neg c10,if_neg c15,if_pos c28]at e9;have e9:fT p=(C2 p.ch)++([A0 [63]]++((B6 [59] C2 p.tg.l)++[])):=by rw[e9];simp
 refine jE ?_;refine dS [2,3,4,5] (.op 0 (.op 1 (.op 6 (.op 7 (.op 2 (.op 3 (.op 4 (.op 5 .nil)))))))) [8,9,10,11] C4 ?_;refine kA4 ?_;refine C5 rfl rfl Ef (E1 Et) (λfr=>N1 p.ch _ (hO.ch.mono Sb)) Lb λa32 c32=>?_;refine yf rfl (E1 Ek) (λfr=>U1 _ (by decide +kernel) _ _) ?_;refine sB rfl B3 λb34=>?_
 refine yf rfl (E1 Et) (λfr=>G3 _ _ _ _ _) ?_;refine SR.nil rfl rfl ?_;refine xJ (E2 Et Ek) (R4 [59] _ _ _ p.tg.l _ (hO.tg.rd.mono Vl Sb) (by omega) (λx hx=>(hO.tg.ok x hx).mono Sb)) λa38 c38=>?_;refine xY H9 Eb λb39=>?_
 refine kR a32 λp32 q32 r32=>?_;refine kR a38 λp38 q38 r38=>?_
 refine xJ (E1 Et) (J5 _ 3 _ [⟨a32,c32,C2 p.ch⟩,⟨some ⟨b34,0,none⟩,1,[A0 [63]]⟩,⟨a38,c38,B6 [59] C2 p.tg.l⟩] _ _ (Rd.ofPt rfl (by decide) Me) (A9 (iR r32 p32 q32) (A9 (Rd.ofPt rfl (show 1<=9223372036854775807 by decide) Me) (A9 (iR r38 p38 q38) F6))) (by decide) (A9 (Nat.le_trans (H1 _) (by decide)) (A9 (by simp) (A9 (Nat.le_trans (R1 [59] p.tg.l (by omega)) (by decide)) F6)))) λa40 c40=>?_;refine Z1 ?_;refine wT (.row (.slice a40 _ c40) 97 4 _ (fl A3 _)::h) ?_;exact⟨_,_,_,congrArg List.length e9.symm,rfl,by rw[e9]<;>rfl⟩;refine Z2 ?_;refine wE ?_ ?_<;>intro c41
 have e9:fT p=_:=J1.eq_1 ..;rw[if_neg c5,if_neg c10,if_neg c15,if_neg c28,if_pos c41]at e9;have e9:fT p=(C2 p.ch)++([A0 [33]]++((B6 [59] C2 p.ex.l)++[])):=by rw[e9];simp
 refine jE ?_;refine dS [2,3,4,5] (.op 0 (.op 1 (.op 6 (.op 7 (.op 2 (.op 3 (.op 4 (.op 5 .nil)))))))) [8,9,10,11] C4 ?_;refine kA4 ?_;refine C5 rfl rfl Ef (E1 Et) (λfr=>N1 p.ch _ (hO.ch.mono Sb)) Lb λa45 c45=>?_;refine yf rfl (E1 Ek) (λfr=>U1 _ (by decide +kernel) _ _) ?_;refine sB rfl B3 λb47=>?_
 refine yf rfl (E1 Et) (λfr=>G3 _ _ _ _ _) ?_;refine SR.nil rfl rfl ?_;refine xJ (E2 Et Ek) (R4 [59] _ _ _ p.ex.l _ (hO.ex.rd.mono Vl Sb) (by omega) (λx hx=>(hO.ex.ok x hx).mono Sb)) λa51 c51=>?_;refine xY H9 Eb λb52=>?_
 refine kR a45 λp45 q45 r45=>?_;refine kR a51 λp51 q51 r51=>?_
 refine xJ (E1 Et) (J5 _ 3 _ [⟨a45,c45,C2 p.ch⟩,⟨some ⟨b47,0,none⟩,1,[A0 [33]]⟩,⟨a51,c51,B6 [59] C2 p.ex.l⟩] _ _ (Rd.ofPt rfl (by decide) Me) (A9 (iR r45 p45 q45) (A9 (Rd.ofPt rfl (show 1<=9223372036854775807 by decide) Me) (A9 (iR r51 p51 q51) F6))) (by decide) (A9 (Nat.le_trans (H1 _) (by decide)) (A9 (by simp) (A9 (Nat.le_trans (R1 [59] p.ex.l (by omega)) (by decide)) F6)))) λa53 c53=>?_;refine Z1 ?_;refine wT (.row (.slice a53 _ c53) 97 4 _ (fl A3 _)::h) ?_;exact⟨_,_,_,congrArg List.length e9.symm,rfl,by rw[e9]<;>rfl⟩;refine Z2 ?_;refine wE ?_ ?_<;>intro c54
 have e9:fT p=_:=J1.eq_1 ..;rw[if_neg c5,if_neg c10,if_neg c15,if_neg c28,if_neg c41,if_pos c54]at e9;obtain⟨x9,hx9l⟩:=hone (by omega);have hx0:p.ex.l[0]?=some x9:=by rw[hx9l];rfl
 have hxl:p.ex.l.length=1:=by rw[hx9l];rfl
 have hx9:=hO.ex.ok x9 (List.mem_of_getElem? hx0);have hrx:=hO.ex.rd;have e9:fT p=(C2 p.ch)++([A0 [63],A0 [65,70,84,69,82]]++((C2 x9)++[])):=by rw[e9,hx9l];simp[B6]
 refine jE ?_;refine dS [2,3,4,5,6] (.op 0 (.op 1 (.op 7 (.op 8 (.op 9 (.op 10 (.op 2 (.op 3 (.op 4 (.op 5 (.op 6 .nil))))))))))) [11,12,13,14] C4 ?_;refine kA4 ?_;refine yG rfl (D8 Q1.und Q1.size Q1.posz (Ev.tmp rfl) Ek Rr rfl (q:=0) (by omega)) ?_;refine kA1 ?_;refine C5 rfl rfl Ef (E1 Et) (λfr=>N1 p.ch _ (hO.ch.mono Sb)) Lb λa58 c58=>?_;refine yf rfl (E1 Ek) (λfr=>U1 _ (by decide +kernel) _ _) ?_;refine yf rfl (E1 Ek) (λfr=>I2 _ (by decide +kernel) _ _) ?_;refine sB rfl B3 λb61=>?_
 refine yf rfl (E1 Et) (λfr=>G3 _ _ _ _ _) ?_;refine SR.nil rfl rfl ?_;refine xJ (E1 Et) (N1 x9 _ (hx9.mono Sb)) λa67 c67=>?_;refine xY H9 Eb λb68=>?_
 refine kR a58 λp58 q58 r58=>?_;refine kR a67 λp67 q67 r67=>?_
 refine xJ (E1 Et) (J5 _ 3 _ [⟨a58,c58,C2 p.ch⟩,⟨some ⟨b61,0,none⟩,2,[A0 [63],A0 [65,70,84,69,82]]⟩,⟨a67,c67,C2 x9⟩] _ _ (Rd.ofPt rfl (by decide) Me) (A9 (iR r58 p58 q58) (A9 (Rd.ofPt rfl (show 2<=9223372036854775807 by decide) Me) (A9 (iR r67 p67 q67) F6))) (by decide) (A9 (Nat.le_trans (H1 _) (by decide)) (A9 (by simp) (A9 (Nat.le_trans (H1 _) (by decide)) F6)))) λa69 c69=>?_;refine Z1 ?_;refine wT (.row (.slice a69 _ c69) 97 4 _ (fl A3 _)::h) ?_;exact⟨_,_,_,congrArg List.length e9.symm,rfl,by rw[e9]<;>rfl⟩;refine Z2 ?_;refine wE ?_ ?_<;>intro c70
 have e9:fT p=_:=J1.eq_1 ..;rw[if_neg c5,if_neg c10,if_neg c15,if_neg c28,if_neg c41,if_neg c54,if_pos c70]at e9;have e9:fT p=(C2 p.ch)++([A0 [63],A0 [67,65,83,69]]++[]):=by rw[e9];simp
 refine kA2 ?_;refine xJ (E1 Et) (N1 p.ch _ (hO.ch.mono Sb)) λa74 c74=>?_;refine xf (E1 Ek) (U1 _ (by decide +kernel) _ _) ?_;refine xf (E1 Ek) (I2 _ (by decide +kernel) _ _) ?_;refine xY B3 Eb λb77=>?_
 refine xf (E1 Et) (G3 _ _ _ _ _) ?_;refine xY H9 Eb λb79=>?_;refine kR a74 λp74 q74 r74=>?_
 refine xJ (E1 Et) (J5 _ 2 _ [⟨a74,c74,C2 p.ch⟩,⟨some ⟨b77,0,none⟩,2,[A0 [63],A0 [67,65,83,69]]⟩] _ _ (Rd.ofPt rfl (by decide) Me) (A9 (iR r74 p74 q74) (A9 (Rd.ofPt rfl (show 2<=9223372036854775807 by decide) Me) F6)) (by decide) (A9 (Nat.le_trans (H1 _) (by decide)) (A9 (by simp) F6))) λa80 c80=>?_;refine Z1 ?_;refine wT (.row (.slice a80 _ c80) 97 4 _ (fl A3 _)::h) ?_;exact⟨_,_,_,congrArg List.length e9.symm,rfl,by rw[e9]<;>rfl⟩;refine Z2 ?_;refine wE ?_ ?_<;>intro c81
 have e9:fT p=_:=J1.eq_1 ..;rw[if_neg c5,if_neg c10,if_neg c15,if_neg c28,if_neg c41,if_neg c54,if_neg c70,if_pos c81]at e9;refine jE ?_;refine dS [2,3] (.op 0 (.op 1 (.op 2 (.op 3 .nil)))) [4,5] C4 ?_;refine kA2 ?_;refine yf rfl (E1 Ek) (λfr=>I2 _ (by decide +kernel) _ _) ?_;refine sB rfl B3 λb86=>?_
 refine SR.nil rfl rfl ?_;refine G7 (k:=1) (sz:=4) (cs:=fl A3 [A0 [83,69,81]]) rfl (by decide) Up ?_;refine xg (E2 Et Et) (a4j p.rep b86 1 [A0 [83,69,81]] _ (Rs.mono (h:=h) ⟨hO.rn,hO.rb,hO.rc⟩ Sb) rfl (by decide)) ?_;rintro _ _ ⟨a87,c87,_,rfl,rfl,rfl⟩;refine Z1 ?_;refine wT (.row (.slice a87 _ c87) 97 4 _ (fl A3 _)::h) ?_;exact⟨_,_,_,congrArg List.length e9.symm,rfl,by rw[e9]<;>rfl⟩;refine Z2 ?_;refine wE ?_ ?_<;>intro c88
 have e9:fT p=_:=J1.eq_1 ..;rw[if_neg c5,if_neg c10,if_neg c15,if_neg c28,if_neg c41,if_neg c54,if_neg c70,if_neg c81,if_pos c88]at e9;refine jE ?_;refine dS [2,3] (.op 0 (.op 1 (.op 2 (.op 3 .nil)))) [4,5] C4 ?_;refine kA2 ?_;refine yf rfl (E1 Ek) (λfr=>I2 _ (by decide +kernel) _ _) ?_;refine sB rfl B3 λb93=>?_
 refine SR.nil rfl rfl ?_;refine G7 (k:=1) (sz:=4) (cs:=fl A3 [A0 [80,65,82]]) rfl (by decide) Up ?_;refine xg (E2 Et Et) (a4j p.rep b93 1 [A0 [80,65,82]] _ (Rs.mono (h:=h) ⟨hO.rn,hO.rb,hO.rc⟩ Sb) rfl (by decide)) ?_;rintro _ _ ⟨a94,c94,_,rfl,rfl,rfl⟩;refine Z1 ?_;refine wT (.row (.slice a94 _ c94) 97 4 _ (fl A3 _)::h) ?_;exact⟨_,_,_,congrArg List.length e9.symm,rfl,by rw[e9]<;>rfl⟩;refine Z2 ?_;refine wE ?_ ?_<;>intro c95
 have e9:fT p=_:=J1.eq_1 ..;rw[if_neg c5,if_neg c10,if_neg c15,if_neg c28,if_neg c41,if_neg c54,if_neg c70,if_neg c81,if_neg c88,if_pos c95]at e9;refine j0 ?_;refine xf (E1 Ek) (I2 _ (by decide +kernel) _ _) ?_;refine xf (E1 Ek) (I2 _ (by decide +kernel) _ _) ?_;refine xY B3 Eb λb99=>?_
 refine G7 (k:=2) (sz:=4) (cs:=fl A3 [A0 [80,82,73],A0 [80,65,82]]) rfl (by decide) Up ?_;refine xf (E1 Et) (G3 _ _ _ _ _) ?_;refine Z1 ?_;refine wT (.row (.slice (some ⟨b99,0,none⟩) 2 2) 97 4 2 (fl A3 [A0 [80,82,73],A0 [80,65,82]])::h) ?_;rw[e9];exact⟨_,_,_,rfl,rfl,rfl⟩
 refine Z2 ?_;refine wE ?_ ?_<;>intro c101
 have e9:fT p=_:=J1.eq_1 ..;rw[if_neg c5,if_neg c10,if_neg c15,if_neg c28,if_neg c41,if_neg c54,if_neg c70,if_neg c81,if_neg c88,if_neg c95,if_pos c101]at e9;refine j0 ?_;refine xf (E1 Ek) (I2 _ (by decide +kernel) _ _) ?_;refine xf (E1 Ek) (I2 _ (by decide +kernel) _ _) ?_;refine xY B3 Eb λb105=>?_
 refine G7 (k:=2) (sz:=4) (cs:=fl A3 [A0 [80,76,65,67,69,68],A0 [80,65,82]]) rfl (by decide) Up ?_;refine xf (E1 Et) (G3 _ _ _ _ _) ?_;refine Z1 ?_;refine wT (.row (.slice (some ⟨b105,0,none⟩) 2 2) 97 4 2 (fl A3 [A0 [80,76,65,67,69,68],A0 [80,65,82]])::h) ?_;rw[e9];exact⟨_,_,_,rfl,rfl,rfl⟩
 refine Z2 ?_;refine wE ?_ ?_<;>intro c107
 have e9:fT p=_:=J1.eq_1 ..;rw[if_neg c5,if_neg c10,if_neg c15,if_neg c28,if_neg c41,if_neg c54,if_neg c70,if_neg c81,if_neg c88,if_neg c95,if_neg c101,if_pos c107]at e9;refine jE ?_;refine dS [2,3] (.op 0 (.op 1 (.op 2 (.op 3 .nil)))) [4,5] C4 ?_;refine kA2 ?_;refine yf rfl (E1 Ek) (λfr=>I2 _ (by decide +kernel) _ _) ?_;refine sB rfl B3 λb112=>?_
 refine SR.nil rfl rfl ?_;refine G7 (k:=1) (sz:=4) (cs:=fl A3 [A0 [65,76,84]]) rfl (by decide) Up ?_;refine xg (E2 Et Et) (a4j p.rep b112 1 [A0 [65,76,84]] _ (Rs.mono (h:=h) ⟨hO.rn,hO.rb,hO.rc⟩ Sb) rfl (by decide)) ?_;rintro _ _ ⟨a113,c113,_,rfl,rfl,rfl⟩;refine Z1 ?_;refine wT (.row (.slice a113 _ c113) 97 4 _ (fl A3 _)::h) ?_;exact⟨_,_,_,congrArg List.length e9.symm,rfl,by rw[e9]<;>rfl⟩;refine Z2 ?_;refine wE ?_ ?_<;>intro c114
 have e9:fT p=_:=J1.eq_1 ..;rw[if_neg c5,if_neg c10,if_neg c15,if_neg c28,if_neg c41,if_neg c54,if_neg c70,if_neg c81,if_neg c88,if_neg c95,if_neg c101,if_neg c107,if_pos c114]at e9;refine jE ?_;refine dS [2,3,4] (.op 0 (.op 1 (.op 2 (.op 3 (.op 4 .nil))))) [5,6] C4 ?_;refine kA2 ?_;refine yf rfl (E1 Ek) (λfr=>I2 _ (by decide +kernel) _ _) ?_;refine yf rfl (E1 Ek) (λfr=>I2 _ (by decide +kernel) _ _) ?_;refine sB rfl B3 λb120=>?_
 refine SR.nil rfl rfl ?_;refine G7 (k:=2) (sz:=4) (cs:=fl A3 [A0 [80,82,73],A0 [65,76,84]]) rfl (by decide) Up ?_;refine xg (E2 Et Et) (a4j p.rep b120 2 [A0 [80,82,73],A0 [65,76,84]] _ (Rs.mono (h:=h) ⟨hO.rn,hO.rb,hO.rc⟩ Sb) rfl (by decide)) ?_;rintro _ _ ⟨a121,c121,_,rfl,rfl,rfl⟩;refine Z1 ?_;refine wT (.row (.slice a121 _ c121) 97 4 _ (fl A3 _)::h) ?_;exact⟨_,_,_,congrArg List.length e9.symm,rfl,by rw[e9]<;>rfl⟩;refine Z2 ?_;refine wE ?_ ?_<;>intro c122
 have e9:fT p=_:=J1.eq_1 ..;rw[if_neg c5,if_neg c10,if_neg c15,if_neg c28,if_neg c41,if_neg c54,if_neg c70,if_neg c81,if_neg c88,if_neg c95,if_neg c101,if_neg c107,if_neg c114,if_pos c122]at e9;refine jE ?_;refine dS [2,3] (.op 0 (.op 1 (.op 2 (.op 3 .nil)))) [4,5] C4 ?_;refine kA2 ?_;refine yf rfl (E1 Ek) (λfr=>I2 _ (by decide +kernel) _ _) ?_;refine sB rfl B3 λb127=>?_
 refine SR.nil rfl rfl ?_;refine G7 (k:=1) (sz:=4) (cs:=fl A3 [A0 [73,70]]) rfl (by decide) Up ?_;refine xg (E2 Et Et) (a4j p.rep b127 1 [A0 [73,70]] _ (Rs.mono (h:=h) ⟨hO.rn,hO.rb,hO.rc⟩ Sb) rfl (by decide)) ?_;rintro _ _ ⟨a128,c128,_,rfl,rfl,rfl⟩;refine Z1 ?_;refine wT (.row (.slice a128 _ c128) 97 4 _ (fl A3 _)::h) ?_;exact⟨_,_,_,congrArg List.length e9.symm,rfl,by rw[e9]<;>rfl⟩;refine Z2 ?_;refine wE ?_ ?_<;>intro c129
 have e9:fT p=_:=J1.eq_1 ..;rw[if_neg c5,if_neg c10,if_neg c15,if_neg c28,if_neg c41,if_neg c54,if_neg c70,if_neg c81,if_neg c88,if_neg c95,if_neg c101,if_neg c107,if_neg c114,if_neg c122,if_pos c129]at e9;obtain⟨x9,hx9l⟩:=hone (by omega);have hx0:p.ex.l[0]?=some x9:=by rw[hx9l];rfl
 have hxl:p.ex.l.length=1:=by rw[hx9l];rfl
 have hx9:=hO.ex.ok x9 (List.mem_of_getElem? hx0);have hrx:=hO.ex.rd;have e9:fT p=[A0 [67,65,83,69]]++((C2 x9)++[]):=by rw[e9,hx9l];simp[B6]
 refine jE ?_;refine dS [0,1,2] (.op 3 (.op 4 (.op 5 (.op 6 (.op 0 (.op 1 (.op 2 .nil))))))) [7,8,9,10] C4 ?_;refine kA2 ?_;refine yG rfl (D8 Q1.und Q1.size Q1.posz (Ev.tmp rfl) Ek Rr rfl (q:=0) (by omega)) ?_;refine kA1 ?_;refine yf rfl (E1 Ek) (λfr=>I2 _ (by decide +kernel) _ _) ?_;refine sB rfl B3 λb132=>?_;refine yf rfl (E1 Et) (λfr=>G3 _ _ _ _ _) ?_;refine SR.nil rfl rfl ?_;refine xJ (E1 Et) (N1 x9 _ (hx9.mono Sb)) λa138 c138=>?_
 refine xY H9 Eb λb139=>?_;refine kR a138 λp138 q138 r138=>?_
 refine xJ (E1 Et) (J5 _ 2 _ [⟨some ⟨b132,0,none⟩,1,[A0 [67,65,83,69]]⟩,⟨a138,c138,C2 x9⟩] _ _ (Rd.ofPt rfl (by decide) Me) (A9 (Rd.ofPt rfl (show 1<=9223372036854775807 by decide) Me) (A9 (iR r138 p138 q138) F6)) (by decide) (A9 (by simp) (A9 (Nat.le_trans (H1 _) (by decide)) F6))) λa140 c140=>?_;refine Z1 ?_;refine wT (.row (.slice a140 _ c140) 97 4 _ (fl A3 _)::h) ?_;exact⟨_,_,_,congrArg List.length e9.symm,rfl,by rw[e9]<;>rfl⟩;refine Z2 ?_;refine wE ?_ ?_<;>intro c141
 have e9:fT p=_:=J1.eq_1 ..;rw[if_neg c5,if_neg c10,if_neg c15,if_neg c28,if_neg c41,if_neg c54,if_neg c70,if_neg c81,if_neg c88,if_neg c95,if_neg c101,if_neg c107,if_neg c114,if_neg c122,if_neg c129,if_pos c141]at e9;obtain⟨x9,hx9l⟩:=hone (by omega);have hx0:p.ex.l[0]?=some x9:=by rw[hx9l];rfl
 have hxl:p.ex.l.length=1:=by rw[hx9l];rfl
 have hx9:=hO.ex.ok x9 (List.mem_of_getElem? hx0);have hrx:=hO.ex.rd;have e9:fT p=[A0 [87,72,73,76,69]]++((C2 x9)++[]):=by rw[e9,hx9l];simp[B6]
 refine jE ?_;refine dS [0,1,2] (.op 3 (.op 4 (.op 5 (.op 6 (.op 0 (.op 1 (.op 2 .nil))))))) [7,8,9,10] C4 ?_;refine kA2 ?_;refine yG rfl (D8 Q1.und Q1.size Q1.posz (Ev.tmp rfl) Ek Rr rfl (q:=0) (by omega)) ?_;refine kA1 ?_;refine yf rfl (E1 Ek) (λfr=>I2 _ (by decide +kernel) _ _) ?_;refine sB rfl B3 λb144=>?_;refine yf rfl (E1 Et) (λfr=>G3 _ _ _ _ _) ?_;refine SR.nil rfl rfl ?_;refine xJ (E1 Et) (N1 x9 _ (hx9.mono Sb)) λa150 c150=>?_
 refine xY H9 Eb λb151=>?_;refine kR a150 λp150 q150 r150=>?_
 refine xJ (E1 Et) (J5 _ 2 _ [⟨some ⟨b144,0,none⟩,1,[A0 [87,72,73,76,69]]⟩,⟨a150,c150,C2 x9⟩] _ _ (Rd.ofPt rfl (by decide) Me) (A9 (Rd.ofPt rfl (show 1<=9223372036854775807 by decide) Me) (A9 (iR r150 p150 q150) F6)) (by decide) (A9 (by simp) (A9 (Nat.le_trans (H1 _) (by decide)) F6))) λa152 c152=>?_;refine Z1 ?_;refine wT (.row (.slice a152 _ c152) 97 4 _ (fl A3 _)::h) ?_;exact⟨_,_,_,congrArg List.length e9.symm,rfl,by rw[e9]<;>rfl⟩;have e9:fT p=_:=J1.eq_1 ..;rw[if_neg c5,if_neg c10,if_neg c15,if_neg c28,if_neg c41,if_neg c54,if_neg c70,if_neg c81,if_neg c88,if_neg c95,if_neg c101,if_neg c107,if_neg c114,if_neg c122,if_neg c129,if_neg c141]at e9;have e9:fT p=[E6 p.name,A0 [40]]++((B6 [44] C2 p.ex.l)++([A0 [41]]++[])):=by rw[e9];simp
 refine Z0 ?_;refine dS [2,3,4,5] (.op 0 (.op 1 (.op 6 (.op 7 (.op 2 (.op 3 (.op 4 (.op 5 .nil)))))))) [8,9,10,11,12,13,14] C4 ?_;refine kA4 ?_;refine yf rfl (E1 Et) (λfr=>a1u _ _ _) ?_;refine yf rfl (E1 Ek) (λfr=>U1 _ (by decide +kernel) _ _) ?_;refine sB rfl B3 λb157=>?_;refine yf rfl (E1 Et) (λfr=>G3 _ _ _ _ _) ?_;refine SR.nil rfl rfl ?_;refine xJ (E2 Et Ek) (R4 [44] _ _ _ p.ex.l _ (hO.ex.rd.mono Vl Sb) (by omega) (λx hx=>(hO.ex.ok x hx).mono Sb)) λa161 c161=>?_
 refine xf (E1 Ek) (U1 _ (by decide +kernel) _ _) ?_;refine xY B3 Eb λb163=>?_;refine xf (E1 Et) (G3 _ _ _ _ _) ?_;refine xY H9 Eb λb165=>?_
 refine kR a161 λp161 q161 r161=>?_;refine xJ (E1 Et) (J5 _ 3 _ [⟨some ⟨b157,0,none⟩,2,[E6 p.name,A0 [40]]⟩,⟨a161,c161,B6 [44] C2 p.ex.l⟩,⟨some ⟨b163,0,none⟩,1,[A0 [41]]⟩] _ _ (Rd.ofPt rfl (by decide) Me) (A9 (Rd.ofPt rfl (show 2<=9223372036854775807 by decide) Me) (A9 (iR r161 p161 q161) (A9 (Rd.ofPt rfl (show 1<=9223372036854775807 by decide) Me) F6))) (by decide) (A9 (by simp) (A9 (Nat.le_trans (R1 [44] p.ex.l (by omega)) (by decide)) (A9 (by simp) F6)))) λa166 c166=>?_
 refine Z1 ?_;refine wT (.row (.slice a166 _ c166) 97 4 _ (fl A3 _)::h) ?_;exact⟨_,_,_,congrArg List.length e9.symm,rfl,by rw[e9]<;>rfl⟩
def M2(g:Gu):List Tok:=if((g.cond.k !=0)&&(g.k !=1))=true then C2 g.cond++[⟨5,0,[38],0⟩]else[]
theorem a43(g:Gu):(M2 g).length<=300000:=by
 unfold M2;have:=H1 g.cond;split
 ·rw[List.length_append]
  simp only[List.length_singleton];omega
 ·exact Nat.zero_le _
theorem a6y{g:Gu}(h:guP g=true)(hk:2<=g.k/\g.k<=4):M2 g=a0X g.cond:=by
 have hc:=(a6T h).cond (by omega) (by omega);have h1:(g.k !=1)=true:=by rw[bne_iff_ne];omega
 unfold M2 a0X;rw[h1,Bool.and_true];cases hn:H4 g.cond with
 |true=>rw[b9g hn];rfl
 |false=>
  have hm:F8 g.cond=true:=by
   rcases hc with q|q
   ·exact q
   ·rw[hn]at q;cases q
  have h0:g.cond.k≠0:=λq=>by
   have hF:=(a46 hm).1;rcases a0W hF with w|w|w|w|w|w|w|w|w<;>omega
  rw[if_pos (by simpa using h0),if_neg (by decide)]
theorem a9b{m:View}(g:Gu)(h:List Res)(hO:GOk m h g)(hu:guP g=true):CT prog 43 [guV g] h m (λv _ h'=>OwT h (H0 g.k g.name g.cond g.ch g.tg.l g.vl.l g.time) v h'):=by
 obtain⟨hkk,hb1,hTg,hVl⟩:=a9r hu hO.k.1;refine cB [1,2,3,22,23,28,36,50,65,70] func43 λ_=>?_;refine xX λb1=>?_
 refine ZZ [1,1,0] ?_;refine kP9 [1,3,12] ?_;refine F4 KKh [1] rfl (λF' h'=>∃a3:Option Addr,∃c3:Nat,(True)/\F'=[(3,.slice a3 (M2 g).length c3)]/\.row (.slice a3 (M2 g).length c3) 97 4 (M2 g).length (fl A3 (M2 g))::.pt b1 (.cells (guE g).toArray 100 (0,0))::h=h') ?_ ?_;refine jE ?_;refine wc ?_ ?_<;>intro c12
 have d12:((g.cond.k !=0)&&(g.k !=1))=true:=c12;have e3:M2 g=(C2 g.cond)++([A0 [38]]++[]):=by unfold M2;rw[if_pos d12];simp only[List.append_nil];rw[c9t (by decide +kernel)]
 refine kA2 ?_;refine xJ (E1 Et) (N1 g.cond _ (hO.cond.mono Sb)) λa15 c15=>?_;refine xf (E1 Ek) (U1 _ (by decide +kernel) _ _) ?_;refine xY B3 Eb λb17=>?_
 refine xf (E1 Et) (G3 _ _ _ _ _) ?_;refine xY H9 Eb λb19=>?_;refine kR a15 λp15 q15 r15=>?_
 refine xJ (E1 Et) (J5 _ 2 _ [⟨a15,c15,C2 g.cond⟩,⟨some ⟨b17,0,none⟩,1,[A0 [38]]⟩] _ _ (Rd.ofPt rfl (by decide) Me) (A9 (iR r15 p15 q15) (A9 (Rd.ofPt rfl (show 1<=9223372036854775807 by decide) Me) F6)) (by decide) (A9 (Nat.le_trans (H1 _) (by decide)) (A9 (by simp) F6))) λa20 c20=>?_;refine a1L (h':=.row (.slice a20 (M2 g).length c20) 97 4 (M2 g).length (fl A3 (M2 g))::_) (by rw[e3];rfl) ?_;refine WL.val (v':=.slice a20 (M2 g).length c20) (by rw[e3];rfl) ?_;refine kA1 ?_;refine WL.nil (B4 [(3,.slice a20 (M2 g).length c20)] (h'':=.row (.slice a20 (M2 g).length c20) 97 4 (M2 g).length (fl A3 (M2 g))::.pt b1 (.cells (guE g).toArray 100 (0,0))::h) ?_ Su Sb ⟨a20,c20,by trivial,rfl,rfl⟩);exact Su;have d12:((g.cond.k !=0)&&(g.k !=1))=false:=c12;have e3:M2 g=[]:=by unfold M2;rw[if_neg (by rw[d12];decide)]
 refine WC.addNil 97 4 ?_;refine V9 (h':=.row (.slice none (M2 g).length 0) 97 4 (M2 g).length (fl A3 (M2 g))::_) (by rw[e3];rfl) ?_;refine WC.skip (B4 [(3,.slice none (M2 g).length 0)] (h'':=.row (.slice none (M2 g).length 0) 97 4 (M2 g).length (fl A3 (M2 g))::.pt b1 (.cells (guE g).toArray 100 (0,0))::h) ?_ Su Sb ⟨none,0,by trivial,rfl,rfl⟩);refine Sub.consE rfl (by rw[e3];rfl) ?_;exact Su;rintro _ _ ⟨a3,c3,hJ,rfl,rfl⟩;refine B2 rfl ?_;refine ZZ [2,2,0] ?_;refine wE ?_ ?_<;>intro c23
 have e9:=H0.eq_1 g.k g.name g.cond g.ch g.tg.l g.vl.l g.time;rw[if_pos c23]at e9;refine kA2 ?_;refine xJ (E1 Et) (N1 g.cond _ (hO.cond.mono Sb)) λa27 c27=>?_
 refine Z1 ?_;refine wT (.row (.slice a27 _ c27) 97 4 _ (fl A3 _)::h) ?_;exact⟨_,_,_,congrArg List.length e9.symm,rfl,by rw[e9]<;>rfl⟩;refine Z2 ?_;refine wE ?_ ?_<;>intro c28
 have e9:=H0.eq_1 g.k g.name g.cond g.ch g.tg.l g.vl.l g.time;rw[if_neg c23,if_pos c28]at e9;rw[<-a6y hu (by omega)]at e9;have e9:H0 g.k g.name g.cond g.ch g.tg.l g.vl.l g.time=(M2 g)++([A0 [83,75,73,80]]++[]):=by rw[e9];simp
 refine kA1 ?_;refine xf (E1 Ek) (I2 _ (by decide +kernel) _ _) ?_;refine xY B3 Eb λb32=>?_;refine xf (E1 Et) (G3 _ _ _ _ _) ?_;refine xY H9 Eb λb34=>?_
 refine kR a3 λp3 q3 r3=>?_;refine xJ (E1 Et) (J5 _ 2 _ [⟨a3,c3,M2 g⟩,⟨some ⟨b32,0,none⟩,1,[A0 [83,75,73,80]]⟩] _ _ (Rd.ofPt rfl (by decide) Me) (A9 (iR r3 p3 q3) (A9 (Rd.ofPt rfl (show 1<=9223372036854775807 by decide) Me) F6)) (by decide) (A9 (a43 g) (A9 (by simp) F6))) λa35 c35=>?_
 refine Z1 ?_;refine wT (.row (.slice a35 _ c35) 97 4 _ (fl A3 _)::h) ?_;exact⟨_,_,_,congrArg List.length e9.symm,rfl,by rw[e9]<;>rfl⟩;refine Z2 ?_;refine wE ?_ ?_<;>intro c36
 have e9:=H0.eq_1 g.k g.name g.cond g.ch g.tg.l g.vl.l g.time;rw[if_neg c23,if_neg c28,if_pos c36]at e9;rw[<-a6y hu (by omega)]at e9;have e9:H0 g.k g.name g.cond g.ch g.tg.l g.vl.l g.time=(M2 g)++((C2 g.ch)++([A0 [63]]++((B6 [59] C2 g.tg.l)++[]))):=by rw[e9];simp
 refine jE ?_;refine F3 [3,4,5,6] (.op 0 (.op 1 (.op 2 (.op 7 (.op 8 (.op 3 (.op 4 (.op 5 (.op 6 .nil))))))))) [9,10,11,12] _ [] C4 (λ_ _ _ _ _ h=>h) [0] (by kernel_rfl) ?_;refine kA5 ?_;refine C5 rfl rfl Ef (E1 Et) (λfr=>N1 g.ch _ (hO.ch.mono Sb)) Lb λa41 c41=>?_;refine yf rfl (E1 Ek) (λfr=>U1 _ (by decide +kernel) _ _) ?_;refine sB rfl B3 λb43=>?_
 refine yf rfl (E1 Et) (λfr=>G3 _ _ _ _ _) ?_;refine SR.nil rfl rfl ?_;refine xJ (E2 Et Ek) (R4 [59] _ _ _ g.tg.l _ (hO.tg.rd.mono Vl Sb) (by omega) (λx hx=>(hO.tg.ok x hx).mono Sb)) λa47 c47=>?_;refine xY H9 Eb λb48=>?_
 refine kR a3 λp3 q3 r3=>?_;refine kR a41 λp41 q41 r41=>?_
 refine kR a47 λp47 q47 r47=>?_;refine xJ (E1 Et) (J5 _ 4 _ [⟨a3,c3,M2 g⟩,⟨a41,c41,C2 g.ch⟩,⟨some ⟨b43,0,none⟩,1,[A0 [63]]⟩,⟨a47,c47,B6 [59] C2 g.tg.l⟩] _ _ (Rd.ofPt rfl (by decide) Me) (A9 (iR r3 p3 q3) (A9 (iR r41 p41 q41) (A9 (Rd.ofPt rfl (show 1<=9223372036854775807 by decide) Me) (A9 (iR r47 p47 q47) F6)))) (by decide) (A9 (a43 g) (A9 (Nat.le_trans (H1 _) (by decide)) (A9 (by simp) (A9 (Nat.le_trans (R1 [59] g.tg.l (by omega)) (by decide)) F6))))) λa49 c49=>?_
 refine Z1 ?_;refine wT (.row (.slice a49 _ c49) 97 4 _ (fl A3 _)::h) ?_;exact⟨_,_,_,congrArg List.length e9.symm,rfl,by rw[e9]<;>rfl⟩;refine Z2 ?_;refine wE ?_ ?_<;>intro c50
 have e9:=H0.eq_1 g.k g.name g.cond g.ch g.tg.l g.vl.l g.time;rw[if_neg c23,if_neg c28,if_neg c36,if_pos c50]at e9;rw[<-a6y hu (by omega)]at e9;have e9:H0 g.k g.name g.cond g.ch g.tg.l g.vl.l g.time=(M2 g)++((C2 g.ch)++([A0 [63],A0 [65,70,84,69,82]]++((C2 g.time)++[]))):=by rw[e9];simp
 refine jE ?_;refine F3 [3,4,5,6,7] (.op 0 (.op 1 (.op 2 (.op 8 (.op 9 (.op 3 (.op 4 (.op 5 (.op 6 (.op 7 .nil)))))))))) [10,11,12,13] _ [] C4 (λ_ _ _ _ _ h=>h) [0] (by kernel_rfl) ?_;refine kA5 ?_;refine C5 rfl rfl Ef (E1 Et) (λfr=>N1 g.ch _ (hO.ch.mono Sb)) Lb λa55 c55=>?_;refine yf rfl (E1 Ek) (λfr=>U1 _ (by decide +kernel) _ _) ?_;refine yf rfl (E1 Ek) (λfr=>I2 _ (by decide +kernel) _ _) ?_;refine sB rfl B3 λb58=>?_
 refine yf rfl (E1 Et) (λfr=>G3 _ _ _ _ _) ?_;refine SR.nil rfl rfl ?_;refine xJ (E1 Et) (N1 g.time _ (hO.time.mono Sb)) λa62 c62=>?_;refine xY H9 Eb λb63=>?_
 refine kR a3 λp3 q3 r3=>?_;refine kR a55 λp55 q55 r55=>?_
 refine kR a62 λp62 q62 r62=>?_;refine xJ (E1 Et) (J5 _ 4 _ [⟨a3,c3,M2 g⟩,⟨a55,c55,C2 g.ch⟩,⟨some ⟨b58,0,none⟩,2,[A0 [63],A0 [65,70,84,69,82]]⟩,⟨a62,c62,C2 g.time⟩] _ _ (Rd.ofPt rfl (by decide) Me) (A9 (iR r3 p3 q3) (A9 (iR r55 p55 q55) (A9 (Rd.ofPt rfl (show 2<=9223372036854775807 by decide) Me) (A9 (iR r62 p62 q62) F6)))) (by decide) (A9 (a43 g) (A9 (Nat.le_trans (H1 _) (by decide)) (A9 (by simp) (A9 (Nat.le_trans (H1 _) (by decide)) F6))))) λa64 c64=>?_
 refine Z1 ?_;refine wT (.row (.slice a64 _ c64) 97 4 _ (fl A3 _)::h) ?_;exact⟨_,_,_,congrArg List.length e9.symm,rfl,by rw[e9]<;>rfl⟩;refine Z2 ?_;refine wE ?_ ?_<;>intro c65
 have e9:=H0.eq_1 g.k g.name g.cond g.ch g.tg.l g.vl.l g.time;rw[if_neg c23,if_neg c28,if_neg c36,if_neg c50,if_pos c65]at e9;refine kA2 ?_;refine xJ (E2 Et Ek) (R4 [44] _ _ _ g.vl.l _ (hO.vl.rd.mono Vl Sb) (by omega) (λx hx=>(hO.vl.ok x hx).mono Sb)) λa69 c69=>?_
 refine Z1 ?_;refine wT (.row (.slice a69 _ c69) 97 4 _ (fl A3 _)::h) ?_;exact⟨_,_,_,congrArg List.length e9.symm,rfl,by rw[e9]<;>rfl⟩;refine Z2 ?_;refine wE ?_ ?_<;>intro c70
 have e9:=H0.eq_1 g.k g.name g.cond g.ch g.tg.l g.vl.l g.time;rw[if_neg c23,if_neg c28,if_neg c36,if_neg c50,if_neg c65,if_pos c70]at e9;refine j0 ?_;refine xf (E1 Ek) (I2 _ (by decide +kernel) _ _) ?_;refine xY B3 Eb λb73=>?_
 refine G7 (k:=1) (sz:=4) (cs:=fl A3 [A0 [69,76,83,69]]) rfl (by decide) Up ?_;refine xf (E1 Et) (G3 _ _ _ _ _) ?_;refine Z1 ?_;refine wT (.row (.slice (some ⟨b73,0,none⟩) 1 1) 97 4 1 (fl A3 [A0 [69,76,83,69]])::h) ?_;rw[e9];exact⟨_,_,_,rfl,rfl,rfl⟩
 have e9:=H0.eq_1 g.k g.name g.cond g.ch g.tg.l g.vl.l g.time;rw[if_neg c23,if_neg c28,if_neg c36,if_neg c50,if_neg c65,if_neg c70]at e9;have e9:H0 g.k g.name g.cond g.ch g.tg.l g.vl.l g.time=[E6 g.name]++((M9 [59] (B6 [59] C2 g.tg.l))++[]):=by rw[e9];simp
 refine Z0 ?_;refine dS [2,3,4] (.op 0 (.op 1 (.op 5 (.op 6 (.op 2 (.op 3 (.op 4 .nil))))))) [7,8,9,10,11] C4 ?_;refine kA4 ?_;refine yf rfl (E1 Et) (λfr=>a1u _ _ _) ?_;refine sB rfl B3 λb78=>?_;refine yf rfl (E1 Et) (λfr=>G3 _ _ _ _ _) ?_;refine SR.nil rfl rfl ?_;refine xJ (E2 Et Ek) (R4 [59] _ _ _ g.tg.l _ (hO.tg.rd.mono Vl Sb) (by omega) (λx hx=>(hO.tg.ok x hx).mono Sb)) λa82 c82=>?_
 refine kR a82 λp82 q82 r82=>?_;refine xJ (E2 Ek Et) (b0e [59] (by decide +kernel) _ _ _ (B6 [59] C2 g.tg.l) _ (iR r82 p82 q82) (Nat.le_trans (R1 [59] g.tg.l (by omega)) (by decide))) λa83 c83=>?_
 refine xY H9 Eb λb84=>?_;refine kR a83 λp83 q83 r83=>?_
 refine xJ (E1 Et) (J5 _ 2 _ [⟨some ⟨b78,0,none⟩,1,[E6 g.name]⟩,⟨a83,c83,M9 [59] (B6 [59] C2 g.tg.l)⟩] _ _ (Rd.ofPt rfl (by decide) Me) (A9 (Rd.ofPt rfl (show 1<=9223372036854775807 by decide) Me) (A9 (iR r83 p83 q83) F6)) (by decide) (A9 (by simp) (A9 (Nat.le_trans (a8V [59] (a5N [59] g.tg.l (by omega))) (by decide)) F6))) λa85 c85=>?_;refine Z1 ?_;refine wT (.row (.slice a85 _ c85) 97 4 _ (fl A3 _)::h) ?_;exact⟨_,_,_,congrArg List.length e9.symm,rfl,by rw[e9]<;>rfl⟩
end
section
open Go.Eng Go.Pc Go.Sx Go
open Go.Xp hiding B C9
open Go.Ty (Ty Vr Tok eqT tyV I7 A3 B8 O4 zeroK M8 D3 encV D2 prL prV PrOk VOk mayPr hdV)
open Go.Lx (encB encB_len textO)
theorem b1P{l:List Int}{n:Int}(h:Go.Ty.itemsB l n=true):∀x∈l,Go.Ty.is x=true:=λx hx=>by
 unfold Go.Ty.itemsB at h;simp only[Bool.and_eq_true,Bool.not_eq_true',List.any_eq_false]at h;simpa using h.2 x hx
theorem b4D:∀{l pre:List Vr},Go.Ty.mayIn pre l=true->∀v∈l,∀x∈v.items,Go.Ty.is x=true
 | [],_,_,v,hv=>by cases hv
 |w::r,pre,h,v,hv=>by
  unfold Go.Ty.mayIn at h;split at h
  ·cases h
  ·rename_i q
   cases hv with
   |head=>unfold Go.Ty.badV at q;simp only[Bool.or_eq_true,Bool.not_eq_true',not_or,Bool.not_eq_false]at q;exact b1P q.1.2
   |tail _ hv=>exact b4D h v hv
theorem b4Z{cs:Bool}{l:List Vr}(h:mayPr cs l=true):∀v∈l,∀x∈v.items,Go.Ty.is x=true:=by
 unfold Go.Ty.mayPr at h;cases cs with
 |false=>
  simp only[Bool.not_false,if_true,Bool.and_eq_true,beq_iff_eq]at h;intro v hv;match l,h,hv with
  | [w],h,hv=>rw[List.mem_singleton]at hv;subst hv;exact b1P h.2
  | [],_,hv=>cases hv
  |_::_::_,h,_=>exact absurd h.1.1 (by simp only[List.length_cons];omega)
 |true=>
  simp only[Bool.not_true,Bool.false_eq_true,if_false]at h;split at h
  ·cases h
  ·exact b4D h
abbrev Lsl:=Int×Sli Tok
def lnE(x:Lsl):List Value:=[.int .i64 x.1,.slice x.2.a x.2.l.length x.2.c]
theorem c3X(x:Lsl):(lnE x).length=2:=rfl
set_option linter.defProp false in
@[reducible,instance]def ilnE_len:=Go.Eng.Ln.mk c3X (by decide)
def unL(x:Lsl):Ln:=(x.1,x.2.l)
def LiR(m:View)(bl:List Res)(ss:List Lsl):Prop:=∀x∈ss,Rd m bl x.2.a x.2.l.length x.2.c 4 (fl A3 x.2.l)
abbrev LnO(m:View)(h:List Res)(ls:List Ln)(v:Value)(h':List Res):Prop:=
 ∃(a:Option Addr)(c:Nat)(bl:List Res)(ss:List Lsl),v=.slice a ss.length c/\LiR m bl ss/\ss.map unL=ls/\h'=.row (.slice a ss.length c) 70 2 ss.length (fl lnE ss)::(bl++h)
theorem LiR.mono{m:View}{bl bl2:List Res}{ss:List Lsl}(q:LiR m bl ss)(s:bl.Sublist bl2):LiR m bl2 ss:=λx hx=>(q x hx).mono Vl s
theorem LiR.app{m:View}{bl:List Res}{s1 s2:List Lsl}(q:LiR m bl s1)(p:LiR m bl s2):LiR m bl (s1++s2):=λx hx=>(List.mem_append.1 hx).elim (q x) (p x)
theorem b1D{m:View}{bl:List Res}{d:Int}{a:Option Addr}{c:Nat}{l:List Tok}(r:(fl A3 l).length=l.length*4)(p:l.length<=c)(w:c<=9223372036854775807)(hm:Res.row (.slice a l.length c) 97 4 l.length (fl A3 l)∈bl):LiR m bl [(d,⟨a,c,l⟩)]:=λx hx=>by
 rw[List.mem_singleton]at hx;subst hx;exact Rd.ofRow r p w hm
theorem b8G{m:View}{bl:List Res}{d:Int}{b:Nat}{l:List Tok}(hl:l.length<=9223372036854775807)(hm:Res.pt b (.cells (fl A3 l).toArray 97 (0,0))∈bl):LiR m bl [(d,⟨some ⟨b,0,none⟩,l.length,l⟩)]:=λx hx=>by
 rw[List.mem_singleton]at hx;subst hx;exact Rd.ofPt (a8f B8 l) hl hm
theorem c4a{m:View}{h:List Res}{d:Int}{a:Option Addr}{c:Nat}{l:List Tok}{b:Nat}(p:l.length<=c)(w:c<=9223372036854775807)(r:(fl A3 l).length=l.length*4) :
 LnO m h [(d,l)] (.slice (some ⟨b,0,none⟩) 1 1) (.row (.slice (some ⟨b,0,none⟩) 1 1) 70 2 1 (fl lnE [(d,⟨a,c,l⟩)])::.row (.slice a l.length c) 97 4 l.length (fl A3 l)::h):=
 ⟨_,1,[_],[(d,⟨a,c,l⟩)],rfl,b1D r p w (List.Mem.head _),rfl,rfl⟩
theorem d0o{m:View}{d e:Int}{a:Option Addr}{c:Nat}{l:List Tok}{b:Nat}{t:Tok}(r:(fl A3 l).length=l.length*4)(p:l.length<=c)(w:c<=9223372036854775807) :
 LiR m [.pt b (.cells (fl A3 [t]).toArray 97 (0,0)),.row (.slice a l.length c) 97 4 l.length (fl A3 l)] [(d,⟨a,c,l⟩),(e,⟨some ⟨b,0,none⟩,1,[t]⟩)]:=
 LiR.app (s1:=[_]) (b1D r p w (List.Mem.tail _ (List.Mem.head _))) (b8G (by simp) (List.Mem.head _))
theorem c3a{m:View}{bl:List Res}{ss:List Lsl}{d:Int}{a:Option Addr}{c:Nat}{l:List Tok}(q:LiR m bl ss)(r:(fl A3 l).length=l.length*4)(p:l.length<=c)(w:c<=9223372036854775807) :
 LiR m (.row (.slice a l.length c) 97 4 l.length (fl A3 l)::bl) (ss++[(d,⟨a,c,l⟩)]):=(q.mono (List.sublist_cons_self _ _)).app (b1D r p w (List.Mem.head _))
theorem c7h{m:View}{bl:List Res}{ss:List Lsl}{d:Int}{b:Nat}{t:Tok}(q:LiR m bl ss):LiR m (.pt b (.cells (fl A3 [t]).toArray 97 (0,0))::bl) (ss++[(d,⟨some ⟨b,0,none⟩,1,[t]⟩)]):=(q.mono (List.sublist_cons_self _ _)).app (b8G (by simp) (List.Mem.head _))
theorem c1C{m:View}{bl:List Res}{ss:List Lsl}{d e:Int}{a:Option Addr}{c:Nat}{l:List Tok}{b:Nat}{t:Tok}(q:LiR m bl ss)(r:(fl A3 l).length=l.length*4)(p:l.length<=c)(w:c<=9223372036854775807) :
 LiR m (.pt b (.cells (fl A3 [t]).toArray 97 (0,0))::.row (.slice a l.length c) 97 4 l.length (fl A3 l)::bl) (([(d,⟨a,c,l⟩)]++ss)++[(e,⟨some ⟨b,0,none⟩,1,[t]⟩)]):=
 ((b1D r p w (List.Mem.tail _ (List.Mem.head _))).app (q.mono ((List.sublist_cons_self _ _).cons _))).app (b8G (by simp) (List.Mem.head _))
theorem b2U{A:List Ln}{d:Int}{a:Option Addr}{c:Nat}(v:Vr):A++[((d+2,⟨a,c,[E6 v.tag]++(M9 [59] (B6 [59] L9 v.items)++[])⟩):Lsl)].map unL=A++[v].map (λv=>((d+2,K2 v):Ln)):=by unfold unL K2;simp only[List.map_cons,List.map_nil,List.append_nil]
abbrev LNC(m:View)(p:Pr):Prop:=∀(d:Int)(h:List Res),POk m h p->Vld p->(0<=d/\d+2*(P9 p:Int)<=100000) ->
 CT prog 17 [prV p,.int .i64 d] h m (λv _ h'=>LnO m h (D6 p d) v h')
theorem a9E{m:View}(s:Sp)(d:Int)(h:List Res)(hO:SOk m h s)(hu:spP s=true)(hS:∀x∈s.bl,POk m h x/\Vld x/\LNC m x/\d+1+2*(P9 x:Int)<=100000)(hd:0<=d/\d<=100000) :
 CT prog 39 [spV s,.int .i64 d] h m (λv _ h'=>LnO m h (J3 s d) v h'):=by
 obtain⟨hk,hnl,h5,h4⟩:=b0w hu;have hty:s.ty.proto.length<=9223372036854775807:=Nat.le_trans hO.ty.p (by decide);have hls:=a8a s d;refine cB [1,2,4,5,6,7,8,9,10,15,16,30,53,73,78,123,174] func39 λ_=>?_;refine xX λb2=>?_
 refine WL.addNil 70 2 ?_;refine Z1 ?_;refine xf (E1 Ek) (U1 _ (by decide +kernel) _ _) ?_;refine xY B3 Eb λb12=>?_;refine xf (E1 Et) (G3 _ _ _ _ _) ?_;refine ZZ [1,2,2,0] ?_;refine wE ?_ ?_<;>intro c16
 rw[if_pos c16]at hls;have hls:J3 s d=[(d,(G5 s.ty)++((D0 s.names.l)++([A0 [58]]++[])))]:=by rw[hls];simp
 refine jE ?_;refine F3 [3,6] (.op 0 (.op 1 (.op 2 (.op 4 (.op 5 (.op 7 (.op 3 (.op 6 .nil)))))))) [8,9,10,11,12] _ [] C4 (λ_ _ _ _ _ h=>h) [0] (by kernel_rfl) ?_;refine kA6 ?_;refine C5 rfl rfl Ef (E1 Et) (λfr=>a4w s.ty _ hty) Lb λa21 c21=>?_;refine C5 rfl rfl Ef (E1 Et) (λfr=>X5 _ _ _ s.names.l _ _ (hO.nr.mono Vl Sb) (by omega)) Lb λa24 c24=>?_
 refine SR.nil rfl rfl ?_;refine xY H9 Eb λb26=>?_;refine kR a21 λp21 q21 r21=>?_
 refine kR a24 λp24 q24 r24=>?_;refine xJ (E1 Et) (J5 _ 3 _ [⟨a21,c21,G5 s.ty⟩,⟨a24,c24,D0 s.names.l⟩,⟨some ⟨b12,0,none⟩,1,[A0 [58]]⟩] _ _ (Rd.ofPt rfl (by decide) Me) (A9 (iR r21 p21 q21) (A9 (iR r24 p24 q24) (A9 (Rd.ofPt rfl (show 1<=9223372036854775807 by decide) Me) F6))) (by decide) (A9 (Nat.le_trans (a03 _) (by decide)) (A9 (Nat.le_trans (V0 s.names.l (by omega)) (by decide)) (A9 (by simp) F6)))) λa27 c27=>?_
 refine kA1 ?_;refine xY a3g Eb λb29=>?_;refine kR a27 λp27 q27 r27=>?_
 refine G7 (k:=1) (sz:=2) (cs:=fl lnE [(d,⟨a27,c27,(G5 s.ty)++((D0 s.names.l)++([A0 [58]]++[]))⟩)]) rfl (by decide) Up ?_;refine Z1 ?_;refine WC.ret (wR (.row (.slice (some ⟨b29,0,none⟩) 1 1) 70 2 1 (fl lnE ([(d,⟨a27,c27,(G5 s.ty)++((D0 s.names.l)++([A0 [58]]++[]))⟩)]))::.row (.slice a27 _ c27) 97 4 _ (fl A3 _)::h) ?_);rw[hls];exact c4a p27 q27 r27
 refine Z2 ?_;refine wE ?_ ?_<;>intro c30
 rw[if_neg c16,if_pos c30]at hls;have hls:J3 s d=[(d,[A0 [86,65,76]]++((G5 s.ty)++((D0 s.names.l)++([A0 [73,83]]++((C2 s.e)++([A0 [58]]++[]))))))]:=by rw[hls];simp
 refine jE ?_;refine F3 [1,2,3,6,9,10,11,12,15] (.op 0 (.op 4 (.op 5 (.op 7 (.op 8 (.op 13 (.op 14 (.op 16 (.op 1 (.op 2 (.op 3 (.op 6 (.op 9 (.op 10 (.op 11 (.op 12 (.op 15 .nil))))))))))))))))) [17,18,19,20,21] _ [] C4 (λ_ _ _ _ _ h=>h) [0] (by kernel_rfl) ?_;refine kA8 ?_;refine yf rfl (E1 Ek) (λfr=>I2 _ (by decide +kernel) _ _) ?_;refine sB rfl B3 λb34=>?_;refine yf rfl (E1 Et) (λfr=>G3 _ _ _ _ _) ?_;refine C5 rfl rfl Ef (E1 Et) (λfr=>a4w s.ty _ hty) Lb λa38 c38=>?_
 refine C5 rfl rfl Ef (E1 Et) (λfr=>X5 _ _ _ s.names.l _ _ (hO.nr.mono Vl Sb) (by omega)) Lb λa41 c41=>?_;refine yf rfl (E1 Ek) (λfr=>I2 _ (by decide +kernel) _ _) ?_;refine sB rfl B3 λb43=>?_
 refine yf rfl (E1 Et) (λfr=>G3 _ _ _ _ _) ?_;refine C5 rfl rfl Ef (E1 Et) (λfr=>N1 s.e _ (hO.e.mono Sb)) Lb λa47 c47=>?_;refine SR.nil rfl rfl ?_;refine xY H9 Eb λb49=>?_
 refine kR a38 λp38 q38 r38=>?_;refine kR a41 λp41 q41 r41=>?_
 refine kR a47 λp47 q47 r47=>?_;refine xJ (E1 Et) (J5 _ 6 _ [⟨some ⟨b34,0,none⟩,1,[A0 [86,65,76]]⟩,⟨a38,c38,G5 s.ty⟩,⟨a41,c41,D0 s.names.l⟩,⟨some ⟨b43,0,none⟩,1,[A0 [73,83]]⟩,⟨a47,c47,C2 s.e⟩,⟨some ⟨b12,0,none⟩,1,[A0 [58]]⟩] _ _ (Rd.ofPt rfl (by decide) Me) (A9 (Rd.ofPt rfl (show 1<=9223372036854775807 by decide) Me) (A9 (iR r38 p38 q38) (A9 (iR r41 p41 q41) (A9 (Rd.ofPt rfl (show 1<=9223372036854775807 by decide) Me) (A9 (iR r47 p47 q47) (A9 (Rd.ofPt rfl (show 1<=9223372036854775807 by decide) Me) F6)))))) (by decide) (A9 (by simp) (A9 (Nat.le_trans (a03 _) (by decide)) (A9 (Nat.le_trans (V0 s.names.l (by omega)) (by decide)) (A9 (by simp) (A9 (Nat.le_trans (H1 _) (by decide)) (A9 (by simp) F6))))))) λa50 c50=>?_
 refine kA1 ?_;refine xY a3g Eb λb52=>?_;refine kR a50 λp50 q50 r50=>?_
 refine G7 (k:=1) (sz:=2) (cs:=fl lnE [(d,⟨a50,c50,[A0 [86,65,76]]++((G5 s.ty)++((D0 s.names.l)++([A0 [73,83]]++((C2 s.e)++([A0 [58]]++[])))))⟩)]) rfl (by decide) Up ?_;refine Z1 ?_;refine WC.ret (wR (.row (.slice (some ⟨b52,0,none⟩) 1 1) 70 2 1 (fl lnE ([(d,⟨a50,c50,[A0 [86,65,76]]++((G5 s.ty)++((D0 s.names.l)++([A0 [73,83]]++((C2 s.e)++([A0 [58]]++[])))))⟩)]))::.row (.slice a50 _ c50) 97 4 _ (fl A3 _)::h) ?_);rw[hls];exact c4a p50 q50 r50
 refine Z2 ?_;refine wE ?_ ?_<;>intro c53
 rw[if_neg c16,if_neg c30,if_pos c53]at hls;have hls:J3 s d=[(d,(G5 s.ty)++((D0 s.names.l)++([A0 [73,83]]++((C2 s.e)++([A0 [58]]++[])))))]:=by rw[hls];simp
 refine jE ?_;refine F3 [3,6,7,8,9,12] (.op 0 (.op 1 (.op 2 (.op 4 (.op 5 (.op 10 (.op 11 (.op 13 (.op 3 (.op 6 (.op 7 (.op 8 (.op 9 (.op 12 .nil)))))))))))))) [14,15,16,17,18] _ [] C4 (λ_ _ _ _ _ h=>h) [0] (by kernel_rfl) ?_;refine kA8 ?_;refine C5 rfl rfl Ef (E1 Et) (λfr=>a4w s.ty _ hty) Lb λa58 c58=>?_;refine C5 rfl rfl Ef (E1 Et) (λfr=>X5 _ _ _ s.names.l _ _ (hO.nr.mono Vl Sb) (by omega)) Lb λa61 c61=>?_
 refine yf rfl (E1 Ek) (λfr=>I2 _ (by decide +kernel) _ _) ?_;refine sB rfl B3 λb63=>?_;refine yf rfl (E1 Et) (λfr=>G3 _ _ _ _ _) ?_;refine C5 rfl rfl Ef (E1 Et) (λfr=>N1 s.e _ (hO.e.mono Sb)) Lb λa67 c67=>?_
 refine SR.nil rfl rfl ?_;refine xY H9 Eb λb69=>?_;refine kR a58 λp58 q58 r58=>?_
 refine kR a61 λp61 q61 r61=>?_;refine kR a67 λp67 q67 r67=>?_
 refine xJ (E1 Et) (J5 _ 5 _ [⟨a58,c58,G5 s.ty⟩,⟨a61,c61,D0 s.names.l⟩,⟨some ⟨b63,0,none⟩,1,[A0 [73,83]]⟩,⟨a67,c67,C2 s.e⟩,⟨some ⟨b12,0,none⟩,1,[A0 [58]]⟩] _ _ (Rd.ofPt rfl (by decide) Me) (A9 (iR r58 p58 q58) (A9 (iR r61 p61 q61) (A9 (Rd.ofPt rfl (show 1<=9223372036854775807 by decide) Me) (A9 (iR r67 p67 q67) (A9 (Rd.ofPt rfl (show 1<=9223372036854775807 by decide) Me) F6))))) (by decide) (A9 (Nat.le_trans (a03 _) (by decide)) (A9 (Nat.le_trans (V0 s.names.l (by omega)) (by decide)) (A9 (by simp) (A9 (Nat.le_trans (H1 _) (by decide)) (A9 (by simp) F6)))))) λa70 c70=>?_;refine kA1 ?_;refine xY a3g Eb λb72=>?_
 refine kR a70 λp70 q70 r70=>?_;refine G7 (k:=1) (sz:=2) (cs:=fl lnE [(d,⟨a70,c70,(G5 s.ty)++((D0 s.names.l)++([A0 [73,83]]++((C2 s.e)++([A0 [58]]++[]))))⟩)]) rfl (by decide) Up ?_;refine Z1 ?_;refine WC.ret (wR (.row (.slice (some ⟨b72,0,none⟩) 1 1) 70 2 1 (fl lnE ([(d,⟨a70,c70,(G5 s.ty)++((D0 s.names.l)++([A0 [73,83]]++((C2 s.e)++([A0 [58]]++[]))))⟩)]))::.row (.slice a70 _ c70) 97 4 _ (fl A3 _)::h) ?_);rw[hls];exact c4a p70 q70 r70
 refine Z2 ?_;refine wE ?_ ?_<;>intro c73
 have hm:=h4 c73;obtain⟨hv1,hv2⟩:=b1R hm;have hv3:=Go.Ty.mayPr_items hm;have hg0:=c1G hv1;have hgm:=List.mem_of_getElem? hg0;have hvr:=hO.v.rd;rw[if_neg c16,if_neg c30,if_neg c53,if_neg (by omega)]at hls;refine Z4 ?_;refine wc ?_ ?_<;>intro c78
 have d78:s.cs=false:=by simpa using c78
 rw[if_pos d78]at hls;have hvi:=(hO.v.ok _ hgm).rd;have hvn:=hO.vw _ hgm;have hv3h:=hv3 _ hgm;have hit:=b4Z hm _ hgm;have hls:J3 s d=[(d,[A0 [80,82,79,84,79,67,79,76]]++((D0 s.names.l)++([A0 [73,83]]++((B6 [59] L9 (hdV s.vs.l).items)++([A0 [58]]++[])))))]:=by rw[hls];simp
 refine jE ?_;refine F3 [1,2,3,6,7,8,9,16] (.op 0 (.op 4 (.op 5 (.op 10 (.op 11 (.op 12 (.op 13 (.op 14 (.op 15 (.op 17 (.op 1 (.op 2 (.op 3 (.op 6 (.op 7 (.op 8 (.op 9 (.op 16 .nil)))))))))))))))))) [18,19,20,21,22] _ [] C4 (λ_ _ _ _ _ h=>h) [0] (by kernel_rfl) ?_;refine kA6 ?_;refine yG rfl (D8 a0m.und a0m.size a0m.posz (Ev.tmp rfl) Ek Rr rfl (q:=0) (by omega)) ?_;refine kA3 ?_;refine yf rfl (E1 Ek) (λfr=>I2 _ (by decide +kernel) _ _) ?_;refine sB rfl B3 λb81=>?_;refine yf rfl (E1 Et) (λfr=>G3 _ _ _ _ _) ?_;refine C5 rfl rfl Ef (E1 Et) (λfr=>X5 _ _ _ s.names.l _ _ (hO.nr.mono Vl Sb) (by omega)) Lb λa85 c85=>?_
 refine yf rfl (E1 Ek) (λfr=>I2 _ (by decide +kernel) _ _) ?_;refine sB rfl B3 λb87=>?_;refine yf rfl (E1 Et) (λfr=>G3 _ _ _ _ _) ?_;refine C5 rfl rfl Ef (E1 Et) (λfr=>a9d _ _ _ (hdV s.vs.l).items _ _ (hvi.mono Vl Sb) (by omega) hit) Lb λa95 c95=>?_
 refine SR.nil rfl rfl ?_;refine xY H9 Eb λb97=>?_;refine kR a85 λp85 q85 r85=>?_
 refine kR a95 λp95 q95 r95=>?_;refine xJ (E1 Et) (J5 _ 5 _ [⟨some ⟨b81,0,none⟩,1,[A0 [80,82,79,84,79,67,79,76]]⟩,⟨a85,c85,D0 s.names.l⟩,⟨some ⟨b87,0,none⟩,1,[A0 [73,83]]⟩,⟨a95,c95,B6 [59] L9 (hdV s.vs.l).items⟩,⟨some ⟨b12,0,none⟩,1,[A0 [58]]⟩] _ _ (Rd.ofPt rfl (by decide) Me) (A9 (Rd.ofPt rfl (show 1<=9223372036854775807 by decide) Me) (A9 (iR r85 p85 q85) (A9 (Rd.ofPt rfl (show 1<=9223372036854775807 by decide) Me) (A9 (iR r95 p95 q95) (A9 (Rd.ofPt rfl (show 1<=9223372036854775807 by decide) Me) F6))))) (by decide) (A9 (by simp) (A9 (Nat.le_trans (V0 s.names.l (by omega)) (by decide)) (A9 (by simp) (A9 (Nat.le_trans (a3X [59] (hdV s.vs.l).items (by omega)) (by decide)) (A9 (by simp) F6)))))) λa98 c98=>?_
 refine kA1 ?_;refine xY a3g Eb λb100=>?_;refine kR a98 λp98 q98 r98=>?_
 refine G7 (k:=1) (sz:=2) (cs:=fl lnE [(d,⟨a98,c98,[A0 [80,82,79,84,79,67,79,76]]++((D0 s.names.l)++([A0 [73,83]]++((B6 [59] L9 (hdV s.vs.l).items)++([A0 [58]]++[]))))⟩)]) rfl (by decide) Up ?_;refine Z1 ?_;refine WC.ret (wR (.row (.slice (some ⟨b100,0,none⟩) 1 1) 70 2 1 (fl lnE ([(d,⟨a98,c98,[A0 [80,82,79,84,79,67,79,76]]++((D0 s.names.l)++([A0 [73,83]]++((B6 [59] L9 (hdV s.vs.l).items)++([A0 [58]]++[]))))⟩)]))::.row (.slice a98 _ c98) 97 4 _ (fl A3 _)::h) ?_);rw[hls];exact c4a p98 q98 r98
 have d78:¬(s.cs=false):=by simpa using c78
 rw[if_neg d78]at hls;have hls:J3 s d=(d,[A0 [80,82,79,84,79,67,79,76]]++((D0 s.names.l)++[]))::(d+1,[A0 [67,65,83,69]])::(s.vs.l.map (λv=>((d+2,K2 v):Ln))++[(d,[A0 [58]])]):=by rw[hls];simp
 refine Z0 ?_;refine dS [1,2,3,6,7,8,12,13,14] (.op 0 (.op 4 (.op 5 (.op 10 (.op 11 (.op 1 (.op 2 (.op 3 (.op 6 (.op 7 (.op 8 (.op 9 (.op 12 (.op 13 (.op 14 (.op 15 .nil)))))))))))))))) [16,17] C4 ?_;refine kA4 ?_;refine yG rfl (L6 Et Ek (by omega)) ?_;refine yf rfl (E1 Ek) (λfr=>I2 _ (by decide +kernel) _ _) ?_;refine sB rfl B3 λb103=>?_;refine yf rfl (E1 Et) (λfr=>G3 _ _ _ _ _) ?_;refine C5 rfl rfl Ef (E1 Et) (λfr=>X5 _ _ _ s.names.l _ _ (hO.nr.mono Vl Sb) (by omega)) Lb λa107 c107=>?_
 refine sB rfl H9 λb108=>?_;refine C5 rfl rfl Ef (E1 Et) (λfr=>CT.knowRow call86 (a:=a107) (List.mem_append_right _ Me) (λp107 q107 r107=>J5 _ 2 _ [⟨some ⟨b103,0,none⟩,1,[A0 [80,82,79,84,79,67,79,76]]⟩,⟨a107,c107,D0 s.names.l⟩] _ _ (Rd.ofPt rfl (by decide) (List.mem_append_right _ Me)) (A9 (Rd.ofPt rfl (show 1<=9223372036854775807 by decide) (List.mem_append_right _ Me)) (A9 (Rd.ofRow r107 p107 q107 (List.mem_append_right _ Me)) F6)) (by decide) (A9 (by simp) (A9 (Nat.le_trans (V0 s.names.l (by omega)) (by decide)) F6)))) Lb λa109 c109=>?_
 refine yG rfl (PO.build c7c rfl rfl rfl Eb (by exact rfl)) ?_;refine yf rfl (E1 Ek) (λfr=>I2 _ (by decide +kernel) _ _) ?_;refine sB rfl B3 λb114=>?_;refine yf rfl (E1 Et) (λfr=>G3 _ _ _ _ _) ?_;refine yG rfl (PO.build c7c rfl rfl rfl Eb (by exact rfl)) ?_;refine SR.nil rfl rfl ?_;refine xY a3g Eb λb117=>?_
 refine kR a109 λp109 q109 r109=>?_;refine G7 (k:=2) (sz:=2) (cs:=fl lnE [((d,⟨a109,c109,[A0 [80,82,79,84,79,67,79,76]]++((D0 s.names.l)++[])⟩):Lsl),((d+1,⟨some ⟨b114,0,none⟩,1,[A0 [67,65,83,69]]⟩):Lsl)]) rfl (by decide) Up ?_;refine WL.perm ((Del.perm (r:=.pt b114 (.cells (fl A3 [A0 [67,65,83,69]]).toArray 97 (0,0))) De).trans (Mv1.perm (by(repeat (first|apply Mv1.cons|exact Mv1.stop))))) ?_;refine WL.perm ((Del.perm (r:=.row (.slice a109 ([A0 [80,82,79,84,79,67,79,76]]++((D0 s.names.l)++[])).length c109) 97 4 ([A0 [80,82,79,84,79,67,79,76]]++((D0 s.names.l)++[])).length (fl A3 ([A0 [80,82,79,84,79,67,79,76]]++((D0 s.names.l)++[])))) De).trans (Mv1.perm (by(repeat (first|apply Mv1.cons|exact Mv1.stop))))) ?_;refine ZZ [1,1,0] ?_
 refine B1 [1,2,5] rfl (λμ F' h'=>∃a9:Option Addr,∃c9:Nat,∃ss:List Lsl,∃bl:List Res,∃j:Nat,((j<=s.vs.l.length/\LiR m bl ss)/\ss.map unL=(d,[A0 [80,82,79,84,79,67,79,76]]++((D0 s.names.l)++[]))::(d+1,[A0 [67,65,83,69]])::(s.vs.l.take j).map (λv=>((d+2,K2 v):Ln)))/\s.vs.l.length-j=μ/\F'=[(6,.slice a9 ss.length c9),(7,.int .i64 j)]/\.row (.slice a9 ss.length c9) 70 2 ss.length (fl lnE ss)::.pt b12 (.cells (fl A3 [A0 [58]]).toArray 97 (0,0))::.pt b2 (.cells (spE s).toArray 43 (0,0))::(bl++h)=h') (s.vs.l.length-0) [(6,.slice (some ⟨b117,0,none⟩) ([((d,⟨a109,c109,[A0 [80,82,79,84,79,67,79,76]]++((D0 s.names.l)++[])⟩):Lsl),((d+1,⟨some ⟨b114,0,none⟩,1,[A0 [67,65,83,69]]⟩):Lsl)]).length 2),(7,.int .i64 0)] (h0:=.row (.slice (some ⟨b117,0,none⟩) ([((d,⟨a109,c109,[A0 [80,82,79,84,79,67,79,76]]++((D0 s.names.l)++[])⟩):Lsl),((d+1,⟨some ⟨b114,0,none⟩,1,[A0 [67,65,83,69]]⟩):Lsl)]).length 2) 70 2 ([((d,⟨a109,c109,[A0 [80,82,79,84,79,67,79,76]]++((D0 s.names.l)++[])⟩):Lsl),((d+1,⟨some ⟨b114,0,none⟩,1,[A0 [67,65,83,69]]⟩):Lsl)]).length (fl lnE ([((d,⟨a109,c109,[A0 [80,82,79,84,79,67,79,76]]++((D0 s.names.l)++[])⟩):Lsl),((d+1,⟨some ⟨b114,0,none⟩,1,[A0 [67,65,83,69]]⟩):Lsl)]))::.pt b12 (.cells (fl A3 [A0 [58]]).toArray 97 (0,0))::.pt b2 (.cells (spE s).toArray 43 (0,0))::(([.pt b114 (.cells (fl A3 [A0 [67,65,83,69]]).toArray 97 (0,0)),.row (.slice a109 ([A0 [80,82,79,84,79,67,79,76]]++((D0 s.names.l)++[])).length c109) 97 4 ([A0 [80,82,79,84,79,67,79,76]]++((D0 s.names.l)++[])).length (fl A3 ([A0 [80,82,79,84,79,67,79,76]]++((D0 s.names.l)++[])))])++h)) ?_ Sb ⟨some ⟨b117,0,none⟩,2,[((d,⟨a109,c109,[A0 [80,82,79,84,79,67,79,76]]++((D0 s.names.l)++[])⟩):Lsl),((d+1,⟨some ⟨b114,0,none⟩,1,[A0 [67,65,83,69]]⟩):Lsl)],[.pt b114 (.cells (fl A3 [A0 [67,65,83,69]]).toArray 97 (0,0)),.row (.slice a109 ([A0 [80,82,79,84,79,67,79,76]]++((D0 s.names.l)++[])).length c109) 97 4 ([A0 [80,82,79,84,79,67,79,76]]++((D0 s.names.l)++[])).length (fl A3 ([A0 [80,82,79,84,79,67,79,76]]++((D0 s.names.l)++[])))],0,⟨⟨Nat.zero_le _,d0o r109 p109 q109⟩,rfl⟩,rfl,rfl,rfl⟩ ?_
 exact Su;rintro _ _ _ ⟨a9,c9,ss,bl,j,⟨⟨hj,hR⟩,hJ⟩,rfl,rfl,rfl⟩;refine B2 rfl ?_;refine Z6 ?_;refine wD ?_ ?_<;>intro c123
 obtain⟨v,hv⟩:=A5 (l:=s.vs.l) (k:=j) (by omega);have hvm:=List.mem_of_getElem? hv;have hvi:=(hO.v.ok _ hvm).rd;have hvn:=hO.vw _ hvm;have hv3v:=hv3 _ hvm;have hit:=b4Z hm _ hvm;have htk:=U5 hv;have hsl:=congrArg List.length hJ;simp only[List.length_map,List.length_cons,List.length_take]at hsl;refine Z0 ?_;refine F3 [10,11,12,20,21,22,23] (.op 0 (.op 1 (.op 2 (.op 3 (.op 4 (.op 5 (.op 6 (.op 7 (.op 8 (.op 9 (.op 13 (.op 14 (.op 15 (.op 16 (.op 17 (.op 18 (.op 19 (.op 10 (.op 11 (.op 12 (.op 20 (.op 21 (.op 22 (.op 23 .nil)))))))))))))))))))))))) [24,25,26,27] _ [] C4 (λ_ _ _ _ _ h=>h) [0] (by kernel_rfl) ?_;refine kA2 ?_;refine yG rfl (L6 Et Ek (by omega)) ?_;refine a8L ?_;refine kA2 ?_;refine yf rfl (E1 Et) (λfr=>a1u _ _ _) ?_;refine sB rfl B3 λb137=>?_;refine yf rfl (E1 Et) (λfr=>G3 _ _ _ _ _) ?_;refine C5 rfl rfl Ef (E1 Et) (λfr=>a9d _ _ _ v.items _ _ (hvi.mono Vl Sb) (by omega) hit) Lb λa146 c146=>?_
 refine C5 rfl rfl Ef (E2 Ek Et) (λfr=>CT.knowRow call92 (a:=a146) (List.mem_append_right _ Me) (λp146 q146 r146=>b0e [59] (by decide +kernel) _ _ _ (B6 [59] L9 v.items) _ (Rd.ofRow r146 p146 q146 (List.mem_append_right _ Me)) (Nat.le_trans (a3X [59] v.items (by omega)) (by decide)))) Lb λa147 c147=>?_;refine sB rfl H9 λb148=>?_
 refine C5 rfl rfl Ef (E1 Et) (λfr=>CT.knowRow call86 (a:=a147) (List.mem_append_right _ Me) (λp147 q147 r147=>J5 _ 2 _ [⟨some ⟨b137,0,none⟩,1,[E6 v.tag]⟩,⟨a147,c147,M9 [59] (B6 [59] L9 v.items)⟩] _ _ (Rd.ofPt rfl (by decide) (List.mem_append_right _ Me)) (A9 (Rd.ofPt rfl (show 1<=9223372036854775807 by decide) (List.mem_append_right _ Me)) (A9 (Rd.ofRow r147 p147 q147 (List.mem_append_right _ Me)) F6)) (by decide) (A9 (by simp) (A9 (Nat.le_trans (a8V [59] (a3X [59] v.items (by omega))) (by decide)) F6)))) Lb λa149 c149=>?_;refine SR.nil rfl rfl ?_;refine kA1 ?_;refine xY a3g Eb λb151=>?_
 have hln:(ss++[((d+2,⟨a149,c149,[E6 v.tag]++((M9 [59] (B6 [59] L9 v.items))++[])⟩):Lsl)]).length=ss.length+1:=List.length_append;refine xD a3g (Ev.tmp rfl) (Ev.tmp rfl) hln.symm (D4 (enc:=lnE) _ (((d+2,⟨a149,c149,[E6 v.tag]++((M9 [59] (B6 [59] L9 v.items))++[])⟩):Lsl))) λa152 c152=>?_;refine kR a149 λp149 q149 r149=>?_
 refine WL.perm ((Del.perm (r:=.row (.slice a149 ([E6 v.tag]++((M9 [59] (B6 [59] L9 v.items))++[])).length c149) 97 4 ([E6 v.tag]++((M9 [59] (B6 [59] L9 v.items))++[])).length (fl A3 ([E6 v.tag]++((M9 [59] (B6 [59] L9 v.items))++[])))) De).trans (Mv1.perm (by(repeat (first|apply Mv1.cons|exact Mv1.stop))))) ?_;refine WL.take (r:=.row (.slice a152 (ss++[((d+2,⟨a149,c149,[E6 v.tag]++((M9 [59] (B6 [59] L9 v.items))++[])⟩):Lsl)]).length c152) 70 2 (ss++[((d+2,⟨a149,c149,[E6 v.tag]++((M9 [59] (B6 [59] L9 v.items))++[])⟩):Lsl)]).length (fl lnE (ss++[((d+2,⟨a149,c149,[E6 v.tag]++((M9 [59] (B6 [59] L9 v.items))++[])⟩):Lsl)]))) De ?_;refine ZZ [1,3] ?_
 refine WL.nil (A6 (s.vs.l.length-(j+1)) [(6,.slice a152 (ss++[((d+2,⟨a149,c149,[E6 v.tag]++((M9 [59] (B6 [59] L9 v.items))++[])⟩):Lsl)]).length c152),(7,.int .i64 (j+1))] (h'':=.row (.slice a152 (ss++[((d+2,⟨a149,c149,[E6 v.tag]++((M9 [59] (B6 [59] L9 v.items))++[])⟩):Lsl)]).length c152) 70 2 (ss++[((d+2,⟨a149,c149,[E6 v.tag]++((M9 [59] (B6 [59] L9 v.items))++[])⟩):Lsl)]).length (fl lnE (ss++[((d+2,⟨a149,c149,[E6 v.tag]++((M9 [59] (B6 [59] L9 v.items))++[])⟩):Lsl)]))::.pt b12 (.cells (fl A3 [A0 [58]]).toArray 97 (0,0))::.pt b2 (.cells (spE s).toArray 43 (0,0))::((.row (.slice a149 ([E6 v.tag]++((M9 [59] (B6 [59] L9 v.items))++[])).length c149) 97 4 ([E6 v.tag]++((M9 [59] (B6 [59] L9 v.items))++[])).length (fl A3 ([E6 v.tag]++((M9 [59] (B6 [59] L9 v.items))++[])))::bl)++h)) (by omega) ?_ Su Sb ⟨a152,c152,ss++[((d+2,⟨a149,c149,[E6 v.tag]++((M9 [59] (B6 [59] L9 v.items))++[])⟩):Lsl)],.row (.slice a149 ([E6 v.tag]++((M9 [59] (B6 [59] L9 v.items))++[])).length c149) 97 4 ([E6 v.tag]++((M9 [59] (B6 [59] L9 v.items))++[])).length (fl A3 ([E6 v.tag]++((M9 [59] (B6 [59] L9 v.items))++[])))::bl,j+1,⟨⟨by omega,c3a hR r149 p149 q149⟩,by rw[List.map_append,hJ,htk,List.map_append];exact b2U v⟩,rfl,rfl,rfl⟩)
 exact Su;rw[List.take_of_length_le (by omega)]at hJ;have hsl:=congrArg List.length hJ;simp only[List.length_map,List.length_cons]at hsl;refine ZZ [0,4] ?_;refine xY a3g Eb λb157=>?_
 have hln:(ss++[((d,⟨some ⟨b12,0,none⟩,1,[A0 [58]]⟩):Lsl)]).length=ss.length+1:=List.length_append;refine xD a3g (Ev.tmp rfl) (Ev.tmp rfl) hln.symm (D4 (enc:=lnE) _ (((d,⟨some ⟨b12,0,none⟩,1,[A0 [58]]⟩):Lsl))) λa158 c158=>?_;refine Z1 ?_;refine wT (.row (.slice a158 (ss++[((d,⟨some ⟨b12,0,none⟩,1,[A0 [58]]⟩):Lsl)]).length c158) 70 2 (ss++[((d,⟨some ⟨b12,0,none⟩,1,[A0 [58]]⟩):Lsl)]).length (fl lnE (ss++[((d,⟨some ⟨b12,0,none⟩,1,[A0 [58]]⟩):Lsl)]))::.pt b12 (.cells (fl A3 [A0 [58]]).toArray 97 (0,0))::(bl++h)) ?_;exact⟨_,_,_::bl,_,rfl,c7h hR,by rw[List.map_append,hJ,hls];rfl,rfl⟩;refine WC.skip (kp [1,2,5] ?_);refine jE ?_;have hk5:s.k=5:=by omega
 obtain⟨hbl,hfl⟩:=h5 hk5;have hrb:=hO.b;have hrf:=hO.fr;obtain⟨y,hy⟩:=A5 (l:=s.bl) (k:=0) (by omega);obtain⟨hy1,hy2,hy3,hy4⟩:=hS y (List.mem_of_getElem? hy);have hcy:=a2Y y;have hbe:s.bl=[y]:=by
  cases hb:s.bl with
  |nil=>rw[hb]at hy;cases hy
  |cons z r=>
   rw[hb]at hy hbl;cases hy;cases r with
   |nil=>rfl
   |cons u v=>simp at hbl
 rw[if_neg c16,if_neg c30,if_neg c53,if_pos hk5]at hls;obtain⟨J0,hJ0⟩:∃J,J=[A0 [80,82,79,67]]++((D0 s.names.l)++([A0 [40]]++[])):=⟨_,rfl⟩;have hJl:J0.length<=31000:=by have:=V0 s.names.l (by omega);rw[hJ0];simp only[List.length_append,List.length_cons,List.length_nil];omega
 have hls:J3 s d=(d,(J0++B6 [44] M3 s.fs.l)++[A0 [41]])::(D6 y (d+1)++[(d,[A0 [58]])]):=by rw[hls,hbe,hJ0];simp;rfl
 refine dS [0,1,2] (.op 3 (.op 4 (.op 0 (.op 1 (.op 2 .nil))))) [5,6,7,8,9,10,11] C4 ?_;refine kA2 ?_;refine yf rfl (E1 Ek) (λfr=>I2 _ (by decide +kernel) _ _) ?_;refine sB rfl B3 λb160=>?_;refine yf rfl (E1 Et) (λfr=>G3 _ _ _ _ _) ?_;refine SR.nil rfl rfl ?_;refine xJ (E1 Et) (X5 _ _ _ s.names.l _ _ (hO.nr.mono Vl Sb) (by omega)) λa164 c164=>?_
 refine xf (E1 Ek) (U1 _ (by decide +kernel) _ _) ?_;refine xY B3 Eb λb166=>?_;refine xf (E1 Et) (G3 _ _ _ _ _) ?_;refine xY H9 Eb λb168=>?_
 refine kR a164 λp164 q164 r164=>?_;refine xJ (E1 Et) (J5 _ 3 _ [⟨some ⟨b160,0,none⟩,1,[A0 [80,82,79,67]]⟩,⟨a164,c164,D0 s.names.l⟩,⟨some ⟨b166,0,none⟩,1,[A0 [40]]⟩] _ _ (Rd.ofPt rfl (by decide) Me) (A9 (Rd.ofPt rfl (show 1<=9223372036854775807 by decide) Me) (A9 (iR r164 p164 q164) (A9 (Rd.ofPt rfl (show 1<=9223372036854775807 by decide) Me) F6))) (by decide) (A9 (by simp) (A9 (Nat.le_trans (V0 s.names.l (by omega)) (by decide)) (A9 (by simp) F6)))) λa169 c169=>?_
 refine kA1 ?_;refine a1L (h':=.row (.slice a169 J0.length c169) 97 4 J0.length (fl A3 J0)::_) (by rw[hJ0];rfl) ?_;refine WL.val (v':=.slice a169 J0.length c169) (by rw[hJ0];rfl) ?_;refine ZZ [0,1,0] ?_
 refine B1 [1,2,5] rfl (λμ F' h'=>∃a8:Option Addr,∃c8:Nat,∃r:List Tok,∃j:Nat,((j<=s.fs.l.length/\r.length<=J0.length+j*23)/\r=J0++B6 [44] M3 (s.fs.l.take j))/\s.fs.l.length-j=μ/\F'=[(8,.slice a8 r.length c8),(9,.int .i64 j)]/\.row (.slice a8 r.length c8) 97 4 r.length (fl A3 r)::.pt b12 (.cells (fl A3 [A0 [58]]).toArray 97 (0,0))::.pt b2 (.cells (spE s).toArray 43 (0,0))::h=h') (s.fs.l.length-0) [(8,.slice a169 J0.length c169),(9,.int .i64 0)] (h0:=.row (.slice a169 J0.length c169) 97 4 J0.length (fl A3 J0)::.pt b12 (.cells (fl A3 [A0 [58]]).toArray 97 (0,0))::.pt b2 (.cells (spE s).toArray 43 (0,0))::h) ?_ Sb ⟨a169,c169,J0,0,⟨⟨Nat.zero_le _,by omega⟩,(List.append_nil _).symm⟩,rfl,rfl,rfl⟩ ?_;exact Su;rintro _ _ _ ⟨a8,c8,r,j,⟨⟨hj,hr⟩,hJ⟩,rfl,rfl,rfl⟩;refine B2 rfl ?_;refine Z5 ?_;refine wD ?_ ?_<;>intro c174
 obtain⟨f,hf⟩:=A5 (l:=s.fs.l) (k:=j) (by omega);have hfw:=hO.fw f (List.mem_of_getElem? hf);have hft:f.ty.proto.length<=9223372036854775807:=Nat.le_trans hfw.t.p (by decide);have htk:=U5 hf;have hfl1:=a03 f.ty;have hfl2:(M3 f).length<=12:=by unfold M3;simp only[List.length_append,List.length_singleton];split<;>simp only[List.length_singleton,List.length_nil]<;>omega
 refine Z0 ?_;refine kP2 [1,2,5,8,9,178] ?_;refine F4 KKh [1,2,5,9] rfl (λF' h'=>∃a8:Option Addr,∃c8:Nat,∃r2:List Tok,(r2.length<=r.length+1/\r2++M3 f=J0++B6 [44] M3 (s.fs.l.take (j+1)))/\F'=[(8,.slice a8 r2.length c8)]/\.row (.slice a8 r2.length c8) 97 4 r2.length (fl A3 r2)::.pt b12 (.cells (fl A3 [A0 [58]]).toArray 97 (0,0))::.pt b2 (.cells (spE s).toArray 43 (0,0))::h=h') ?_ ?_;refine jE ?_;refine wD ?_ ?_<;>intro c178
 have hln:(r++[A0 [44]]).length=r.length+1:=List.length_append;refine kA1 ?_;refine xf (E1 Ek) (U1 _ (by decide +kernel) _ _) ?_;refine xY B3 Eb λb181=>?_;refine xD B3 (Ev.tmp rfl) (Ev.tmp rfl) (show r.length+1=(r++[A0 [44]]).length from hln.symm) (D4 (enc:=A3) _ (A0 [44])) λa182 c182=>?_
 refine kA1 ?_;refine WL.nil (B4 [(8,.slice a182 (r++[A0 [44]]).length c182)] (h'':=.row (.slice a182 (r++[A0 [44]]).length c182) 97 4 (r++[A0 [44]]).length (fl A3 (r++[A0 [44]]))::.pt b12 (.cells (fl A3 [A0 [58]]).toArray 97 (0,0))::.pt b2 (.cells (spE s).toArray 43 (0,0))::h) ?_ Su Sb ⟨a182,c182,r++[A0 [44]],⟨by omega,by rw[htk,V6 [44] M3 _ f (by intro q;have:=congrArg List.length q;rw[List.length_take]at this;simp only[List.length_nil]at this;omega),<-List.append_assoc J0,<-hJ,List.append_assoc];rfl⟩,rfl,rfl⟩);exact Su;have hj0:j=0:=by omega
 subst hj0;refine WC.skip (B4 [(8,.slice a8 r.length c8)] (h'':=.row (.slice a8 r.length c8) 97 4 r.length (fl A3 r)::.pt b12 (.cells (fl A3 [A0 [58]]).toArray 97 (0,0))::.pt b2 (.cells (spE s).toArray 43 (0,0))::h) ?_ Su Sb ⟨a8,c8,r,⟨by omega,by rw[htk,hJ];exact List.append_assoc _ _ _⟩,rfl,rfl⟩);exact Su;rintro _ _ ⟨a8,c8,r2,⟨hr2,hJ2⟩,rfl,rfl⟩;refine B2 rfl ?_;refine kP6 [1,2,5,8,9,188] ?_;refine F4 KKh [1,2,5,9] rfl (λF' h'=>∃a8:Option Addr,∃c8:Nat,∃r3:List Tok,(r3.length<=r2.length+1/\r3++(G5 f.ty++([E6 f.name]++[]))=J0++B6 [44] M3 (s.fs.l.take (j+1)))/\F'=[(8,.slice a8 r3.length c8)]/\.row (.slice a8 r3.length c8) 97 4 r3.length (fl A3 r3)::.pt b12 (.cells (fl A3 [A0 [58]]).toArray 97 (0,0))::.pt b2 (.cells (spE s).toArray 43 (0,0))::h=h') ?_ ?_;refine jE ?_;refine wc ?_ ?_<;>intro c188
 have hln:(r2++[A0 [86,65,76]]).length=r2.length+1:=List.length_append;refine kA1 ?_;refine xf (E1 Ek) (I2 _ (by decide +kernel) _ _) ?_;refine xY B3 Eb λb191=>?_;refine xD B3 (Ev.tmp rfl) (Ev.tmp rfl) (show r2.length+1=(r2++[A0 [86,65,76]]).length from hln.symm) (D4 (enc:=A3) _ (A0 [86,65,76])) λa192 c192=>?_
 refine kA1 ?_;refine WL.nil (B4 [(8,.slice a192 (r2++[A0 [86,65,76]]).length c192)] (h'':=.row (.slice a192 (r2++[A0 [86,65,76]]).length c192) 97 4 (r2++[A0 [86,65,76]]).length (fl A3 (r2++[A0 [86,65,76]]))::.pt b12 (.cells (fl A3 [A0 [58]]).toArray 97 (0,0))::.pt b2 (.cells (spE s).toArray 43 (0,0))::h) ?_ Su Sb ⟨a192,c192,r2++[A0 [86,65,76]],⟨by omega,by rw[<-hJ2];unfold M3;rw[if_pos c188];simp only[List.append_assoc,List.append_nil]⟩,rfl,rfl⟩);exact Su;refine WC.skip (B4 [(8,.slice a8 r2.length c8)] (h'':=.row (.slice a8 r2.length c8) 97 4 r2.length (fl A3 r2)::.pt b12 (.cells (fl A3 [A0 [58]]).toArray 97 (0,0))::.pt b2 (.cells (spE s).toArray 43 (0,0))::h) ?_ Su Sb ⟨a8,c8,r2,⟨by omega,by rw[<-hJ2];unfold M3;rw[if_neg (J8 c188)];simp only[List.append_nil,List.nil_append]⟩,rfl,rfl⟩);exact Su;rintro _ _ ⟨a8,c8,r3,⟨hr3,hJ3⟩,rfl,rfl⟩;refine B2 rfl ?_;refine jE ?_
 have hj3:j*23<=8*23:=Nat.mul_le_mul_right _ (by omega);refine F3 [7] (.op 0 (.op 1 (.op 2 (.op 3 (.op 4 (.op 5 (.op 6 (.op 8 (.op 9 (.op 10 (.op 11 (.op 12 (.op 13 (.op 7 .nil)))))))))))))) [14,15,16,17,18,19] _ [] C4 (λ_ _ _ _ _ h=>h) [0] (by kernel_rfl) ?_;refine kA6 ?_;refine yG rfl (b6P a8H rfl rfl a2w Rr (Ev.tmp rfl) (by assumption) rfl rfl (Nat.succ_pos _)) ?_;refine kA6 ?_;refine C5 rfl rfl Ef (E1 Et) (λfr=>a4w f.ty _ hft) Lb λa200 c200=>?_;refine SR.nil rfl rfl ?_;refine xf (E1 Et) (a1u _ _ _) ?_;refine xY B3 Eb λb208=>?_
 refine xf (E1 Et) (G3 _ _ _ _ _) ?_;refine xY H9 Eb λb210=>?_;refine kR a8 λp8 q8 r8=>?_
 refine kR a200 λp200 q200 r200=>?_;refine xJ (E1 Et) (J5 _ 3 _ [⟨a8,c8,r3⟩,⟨a200,c200,G5 f.ty⟩,⟨some ⟨b208,0,none⟩,1,[E6 f.name]⟩] _ _ (Rd.ofPt rfl (by decide) Me) (A9 (iR r8 p8 q8) (A9 (iR r200 p200 q200) (A9 (Rd.ofPt rfl (show 1<=9223372036854775807 by decide) Me) F6))) (by decide) (A9 (Nat.le_trans (show r3.length<=32000 by omega) (by decide)) (A9 (Nat.le_trans (a03 _) (by decide)) (A9 (by simp) F6)))) λa211 c211=>?_
 refine ZZ [1,3] ?_;refine WL.nil (A6 (s.fs.l.length-(j+1)) [(8,.slice a211 ((r3)++((G5 f.ty)++([E6 f.name]++[]))).length c211),(9,.int .i64 (j+1))] (h'':=.row (.slice a211 ((r3)++((G5 f.ty)++([E6 f.name]++[]))).length c211) 97 4 ((r3)++((G5 f.ty)++([E6 f.name]++[]))).length (fl A3 ((r3)++((G5 f.ty)++([E6 f.name]++[]))))::.pt b12 (.cells (fl A3 [A0 [58]]).toArray 97 (0,0))::.pt b2 (.cells (spE s).toArray 43 (0,0))::h) (by omega) ?_ Su Sb ⟨a211,c211,(r3)++((G5 f.ty)++([E6 f.name]++[])),j+1,⟨⟨by omega,by simp only[List.length_append,List.length_singleton,List.length_nil];omega⟩,hJ3⟩,rfl,rfl,rfl⟩);exact Su;rw[List.take_of_length_le (by omega)]at hJ;have hj3:j*23<=8*23:=Nat.mul_le_mul_right _ (by omega);have hln:(r++[A0 [41]]).length=r.length+1:=List.length_append;refine ZZ [0,2] ?_;refine xf (E1 Ek) (U1 _ (by decide +kernel) _ _) ?_;refine xY B3 Eb λb215=>?_
 refine xD B3 (Ev.tmp rfl) (Ev.tmp rfl) (show r.length+1=(r++[A0 [41]]).length from hln.symm) (D4 (enc:=A3) _ (A0 [41])) λa216 c216=>?_;refine kA1 ?_;refine xY a3g Eb λb218=>?_
 refine kR a216 λp216 q216 r216=>?_;refine G7 (k:=1) (sz:=2) (cs:=fl lnE [((d,⟨a216,c216,r++[A0 [41]]⟩):Lsl)]) rfl (by decide) Up ?_;refine WL.perm ((Del.perm (r:=.row (.slice a216 (r++[A0 [41]]).length c216) 97 4 (r++[A0 [41]]).length (fl A3 (r++[A0 [41]]))) De).trans (Mv1.perm (by(repeat (first|apply Mv1.cons|exact Mv1.stop))))) ?_;refine ZZ [1,3] ?_;refine xG (D8 T9.und T9.size T9.posz (Ev.tmp rfl) Ek Rr rfl (q:=0) (by omega)) ?_;refine kA3 ?_;refine xg (E2 Et Et) (hy3 (d+1) _ (hy1.mono Sb) hy2 ⟨by omega,by omega⟩) ?_;rintro _ _ ⟨a226,c226,bl226,ss226,rfl,hR226,hJ226,rfl⟩;refine WL.perm ((Mv.perm).cons _) ?_;refine kR a226 λp226 q226 r226=>?_
 have hsl:=congrArg List.length hJ226;rw[List.length_map]at hsl;have hll:=a6E hy2 (d+1);have hln2:([((d,⟨a216,c216,r++[A0 [41]]⟩):Lsl)]++ss226).length=1+ss226.length:=by rw[List.length_append];rfl
 refine xD a3g (Ev.tmp rfl) (Ev.tmp rfl) (show 1+ss226.length=([((d,⟨a216,c216,r++[A0 [41]]⟩):Lsl)]++ss226).length from hln2.symm) (Q8 (enc:=lnE) [((d,⟨a216,c216,r++[A0 [41]]⟩):Lsl)] ss226).symm λa227 c227=>?_;refine ZZ [1,4] ?_;refine xY a3g Eb λb232=>?_
 have hln3:(([((d,⟨a216,c216,r++[A0 [41]]⟩):Lsl)]++ss226)++[((d,⟨some ⟨b12,0,none⟩,1,[A0 [58]]⟩):Lsl)]).length=([((d,⟨a216,c216,r++[A0 [41]]⟩):Lsl)]++ss226).length+1:=List.length_append;refine xD a3g (Ev.tmp rfl) (Ev.tmp rfl) hln3.symm (D4 (enc:=lnE) _ (((d,⟨some ⟨b12,0,none⟩,1,[A0 [58]]⟩):Lsl))) λa233 c233=>?_;refine Z1 ?_;refine WC.ret (wR (.row (.slice a233 (([((d,⟨a216,c216,r++[A0 [41]]⟩):Lsl)]++ss226)++[((d,⟨some ⟨b12,0,none⟩,1,[A0 [58]]⟩):Lsl)]).length c233) 70 2 (([((d,⟨a216,c216,r++[A0 [41]]⟩):Lsl)]++ss226)++[((d,⟨some ⟨b12,0,none⟩,1,[A0 [58]]⟩):Lsl)]).length (fl lnE (([((d,⟨a216,c216,r++[A0 [41]]⟩):Lsl)]++ss226)++[((d,⟨some ⟨b12,0,none⟩,1,[A0 [58]]⟩):Lsl)]))::.pt b12 (.cells (fl A3 [A0 [58]]).toArray 97 (0,0))::.row (.slice a216 (r++[A0 [41]]).length c216) 97 4 (r++[A0 [41]]).length (fl A3 (r++[A0 [41]]))::(bl226++h)) ?_);exact⟨_,_,_::_::bl226,_,rfl,c1C hR226 r216 p216 q216,by rw[List.map_append,List.map_append,hJ226,hls,hJ];rfl,rfl⟩
end
section
open Go.Eng Go.Pc Go.Sx Go
open Go.Xp hiding B C9
open Go.Ty (Ty Vr Tok eqT tyV I7 A3 B8 O4 zeroK M8 D3 encV D2 prL prV PrOk VOk mayPr hdV)
open Go.Lx (encB encB_len textO)
theorem b1F{k:Int}{d:Int}:∀{ns:List Int}{l:List Pr}{j:Nat},(F1 k ns (l.take j) d).length<=(F1 k ns l d).length
 |ns,[],j=>by rw[List.take_nil];exact Nat.le_refl _
 |ns,y::l,0=>by
  rw[List.take_zero,show F1 k ns [] d=[] by cases ns<;>rfl];exact Nat.zero_le _
 |ns,y::l,j+1=>by
  have ih:=b1F (k:=k) (d:=d) (ns:=ns.tail) (l:=l) (j:=j);show((if k=11 then _ else _)++F1 k ns.tail (l.take j) d).length<=((if k=11 then _ else _)++F1 k ns.tail l d).length;rw[List.length_append,List.length_append];omega
theorem b0c{d:Int}:∀{l:List Gu}{j:Nat},(H8 (l.take j) d).length<=(H8 l d).length
 | [],j=>by rw[List.take_nil];exact Nat.le_refl _
 |y::l,0=>Nat.zero_le _
 |y::l,j+1=>by
  have ih:=b0c (d:=d) (l:=l) (j:=j);show(U8 y d++H8 (l.take j) d).length<=(U8 y d++H8 l d).length;rw[List.length_append,List.length_append];omega
theorem lnX{m:View}{f:FuncId}{args:List Value}{h:List Res}{ls:List Ln}(c:CT prog f args h m (λv _ h'=>LnO m h ls v h')) :
 CX prog f args h m (λv _ h'=>∃hp,h'=hp++h/\∃(a:Option Addr)(c:Nat)(bl:List Res)(ss:List Lsl),v=.slice a ss.length c/\LiR m bl ss/\ss.map unL=ls/\hp=.row (.slice a ss.length c) 70 2 ss.length (fl lnE ss)::bl) (λ_ _=>False):=
 (CX.ofCT c).mono (λ_ _ _ ⟨a,c,bl,ss,e1,e2,e3,e4⟩=>⟨_,e4,a,c,bl,ss,e1,e2,e3,rfl⟩) λ_ _ q=>q
theorem b7t{m:View}(p:Pr):LNC m p:=by
 refine Pr.ind (q:=λp=>LNC m p) (λp ih d h hP hv hd=>?_) p;have hV:=hv.own;have hO:=hP.own;have hkk:=(a0M p.k).2.2 hV.kd;have hls:=a7O p d;have hrl:=hO.l;have hrn:=hO.pn;have hrg:=hO.g;have hlx:=Nat.le_trans hrl.le hrl.mx;have hgx:=Nat.le_trans hrg.le hrg.mx;have hpl:L2 p=true:=by cases hv with|mk q _=>exact q
 have hlen:=a6E hv d;have hpos:=a2Y p;refine cB [1,2,4,5,6,7,10,31,36,77] func17 λ_=>?_;refine xX λb2=>?_
 refine ZZ [1,3,0] ?_;refine wE ?_ ?_<;>intro c10
 have hrp:p.rep.name=[]:=by
  by_cases e:p.rep.name=[]
  ·exact e
  ·have:=hV.rp e;rw[c10]at this;cases this
 have hpn:=hV.pn hrp;rw[c10]at hpn;have hl1:p.ll.length=1:=by have e1:(B5 18).1.p0=1:=rfl;have e2:(B5 18).1.p1=1:=rfl;rw[e1,e2]at hpn;omega
 obtain⟨y,hy⟩:=A5 (l:=p.ll) (k:=0) (by omega);have hin:In y p:=.l (List.mem_of_getElem? hy);have hle:p.ll=[y]:=by
  cases hb:p.ll with
  |nil=>rw[hb]at hy;cases hy
  |cons z r=>
   rw[hb]at hy hl1;cases hy;cases r with
   |nil=>rfl
   |cons u v=>simp at hl1
 have hlt:=hin.lt;rw[if_pos c10,hle]at hls;have hls:D6 p d=J3 p.sp d++D6 y d:=hls;have hl2:=congrArg List.length hls;rw[List.length_append]at hl2;refine jE ?_;refine dS [3] (.op 0 (.op 1 (.op 2 (.op 4 (.op 5 (.op 6 (.op 7 (.op 8 (.op 3 .nil))))))))) [9,10,11] C4 ?_;refine kA5 ?_;refine yG rfl (D8 T9.und T9.size T9.posz (Ev.tmp rfl) Ek Rr rfl (q:=0) (by omega)) ?_;refine kA2 ?_;refine a1M rfl rfl Ef (E2 Et Et) (λfr=>lnX (a9E p.sp d _ (hO.sp.mono Sb) (hV.sp (by rw[c10];rfl)) (λx hx=>⟨(hP.sub (.s hx)).mono Sb,hv.sub (.s hx),ih x (.s hx),by have:=(In.s hx).lt;omega⟩) (by omega))) Lb (λfr v hv hx=>?_) λv14 h14 hr14=>?_
 ·exact hx.elim
 obtain⟨a14,c14,bl14,ss14,rfl,hR14,hJ14,rfl⟩:=hr14;refine a2v (H:=.row (.slice a14 ss14.length c14) 70 2 ss14.length (fl lnE ss14)::.pt b2 (.cells (prE p).toArray 45 (0,0))::(bl14++h)) rfl ((a08 bl14 [_] h).cons _) ?_;have hs14:=congrArg List.length hJ14;rw[List.length_map]at hs14;refine xg (E2 Et Et) (ih y hin d _ ((hP.sub hin).mono Sb) (hv.sub hin) (by omega)) ?_;rintro _ _ ⟨a20,c20,bl20,ss20,rfl,hR20,hJ20,rfl⟩;have hs20:=congrArg List.length hJ20;rw[List.length_map]at hs20;refine WL.perm ((Mv.perm).cons _) ?_;refine kR a20 λp20 q20 r20=>?_
 have hln:(ss14++ss20).length=ss14.length+ss20.length:=List.length_append;refine xD a3g (Ev.tmp rfl) (Ev.tmp rfl) (show ss14.length+ss20.length=(ss14++ss20).length from hln.symm) (Q8 (enc:=lnE) ss14 ss20).symm λa21 c21=>?_;refine Z1 ?_;refine wT (.row (.slice a21 (ss14++ss20).length c21) 70 2 (ss14++ss20).length (fl lnE (ss14++ss20))::(bl20++(bl14++h))) ?_;exact⟨a21,c21,bl20++bl14,ss14++ss20,rfl,(hR14.mono (List.sublist_append_right _ _)).app (hR20.mono (List.sublist_append_left _ _)),by rw[List.map_append,hJ14,hJ20,hls],by rw[List.append_assoc]⟩;rw[if_neg c10]at hls;have hl2:=congrArg List.length hls;rw[List.length_cons,List.length_append]at hl2;obtain⟨FT,hFT⟩:∃T,T=fT p:=⟨_,rfl⟩;rw[<-hFT]at hls;refine ZZ [0,2] ?_;refine xJ (E1 Et) (b6Q p _ (hO.mono Sb) hv) λa24 c24=>?_
 refine a1L (h':=.row (.slice a24 FT.length c24) 97 4 FT.length (fl A3 FT)::_) (by rw[hFT]) ?_;refine WL.val (v':=.slice a24 FT.length c24) (by rw[hFT]) ?_;refine kR a24 λp24 q24 r24=>?_;refine kA1 ?_;refine xY a3g Eb λb26=>?_
 refine G7 (k:=1) (sz:=2) (cs:=fl lnE [(d,⟨a24,c24,FT⟩)]) rfl (by decide) Up ?_;refine WL.perm ((Del.perm (r:=.row (.slice a24 FT.length c24) 97 4 FT.length (fl A3 FT)) De).trans (Mv1.perm (by(repeat (first|apply Mv1.cons|exact Mv1.stop))))) ?_;refine ZZ [1,1,0] ?_
 refine B1 [1,2] rfl (λμ F' h'=>∃a9:Option Addr,∃c9:Nat,∃ss:List Lsl,∃bl:List Res,∃j:Nat,((j<=p.ll.length/\LiR m bl ss)/\ss.map unL=(d,FT)::F1 p.k p.pn.l (p.ll.take j) d)/\p.ll.length-j=μ/\F'=[(5,.slice a9 ss.length c9),(6,.int .i64 j)]/\.row (.slice a9 ss.length c9) 70 2 ss.length (fl lnE ss)::.pt b2 (.cells (prE p).toArray 45 (0,0))::(bl++h)=h') (p.ll.length-0) [(5,.slice (some ⟨b26,0,none⟩) ([(d,⟨a24,c24,FT⟩)]).length 1),(6,.int .i64 0)] (h0:=.row (.slice (some ⟨b26,0,none⟩) ([(d,⟨a24,c24,FT⟩)]).length 1) 70 2 ([(d,⟨a24,c24,FT⟩)]).length (fl lnE ([(d,⟨a24,c24,FT⟩)]))::.pt b2 (.cells (prE p).toArray 45 (0,0))::(([.row (.slice a24 FT.length c24) 97 4 FT.length (fl A3 FT)])++h)) ?_ Sb ⟨some ⟨b26,0,none⟩,1,[(d,⟨a24,c24,FT⟩)],[.row (.slice a24 FT.length c24) 97 4 FT.length (fl A3 FT)],0,⟨⟨Nat.zero_le _,b1D r24 p24 q24 (List.Mem.head _)⟩,by rw[List.take_zero,show F1 p.k p.pn.l [] d=[] by cases p.pn.l<;>rfl];rfl⟩,rfl,rfl,rfl⟩ ?_
 exact Su;rintro _ _ _ ⟨a9,c9,ss,bl,j,⟨⟨hj,hR⟩,hJ⟩,rfl,rfl,rfl⟩;refine B2 rfl ?_;refine Z5 ?_;refine wD ?_ ?_<;>intro c31
 obtain⟨x,hx⟩:=A5 (l:=p.ll) (k:=j) (by omega);have hin:In x p:=.l (List.mem_of_getElem? hx);have hlt:=hin.lt;have htk:=a4V (k:=p.k) (d:=d) (ns:=p.pn.l) hx;unfold c5Q at htk;have hsl:=congrArg List.length hJ;rw[List.length_map,List.length_cons]at hsl;have hle:=b1F (k:=p.k) (d:=d) (ns:=p.pn.l) (l:=p.ll) (j:=j+1);refine ZZ [0,3,0] ?_;refine wE ?_ ?_<;>intro c36
 have hpk:=b5t hpl c36;obtain⟨y,hy⟩:=A5 (l:=p.pn.l) (k:=j) (by omega);rw[if_pos c36,b8h hy]at htk;have htl:=congrArg List.length htk;rw[List.length_append,List.length_cons]at htl;refine jE ?_;refine F3 [3,11,12] (.op 0 (.op 1 (.op 2 (.op 4 (.op 5 (.op 6 (.op 7 (.op 8 (.op 9 (.op 10 (.op 3 (.op 11 (.op 12 .nil))))))))))))) [13,14,15,16] _ [] C4 (λ_ _ _ _ _ h=>h) [0] (by kernel_rfl) ?_;refine kA2 ?_;refine yG rfl (L6 Et Ek (by omega)) ?_;refine kA5 ?_;refine yG rfl (PO.conv uu3 a1X Et) ?_;refine yG rfl (PO.build M4 rfl rfl rfl Eb (by exact rfl)) ?_;refine yf rfl (E1 Ek) (λfr=>I2 _ (by decide +kernel) _ _) ?_;refine sB rfl B3 λb48=>?_
 refine yf rfl (E1 Et) (λfr=>G3 _ _ _ _ _) ?_;refine SR.nil rfl rfl ?_;refine kA1 ?_;refine xY a3g Eb λb51=>?_;have hln:(ss++[((d+1,⟨some ⟨b48,0,none⟩,2,[A0 [80,82,79,67,69,83,83,79,82],⟨3,0,[],IntKind.i32.wrap y⟩]⟩):Lsl)]).length=ss.length+1:=List.length_append;refine xD a3g (Ev.tmp rfl) (Ev.tmp rfl) hln.symm (D4 (enc:=lnE) _ (((d+1,⟨some ⟨b48,0,none⟩,2,[A0 [80,82,79,67,69,83,83,79,82],⟨3,0,[],IntKind.i32.wrap y⟩]⟩):Lsl))) λa52 c52=>?_
 refine WL.perm ((Del.perm (r:=.pt b48 (.cells (fl A3 [A0 [80,82,79,67,69,83,83,79,82],⟨3,0,[],IntKind.i32.wrap y⟩]).toArray 97 (0,0))) De).trans (Mv1.perm (by(repeat (first|apply Mv1.cons|exact Mv1.stop))))) ?_;refine ZZ [1,8] ?_;refine xg (E2 Et Et) (ih x hin (d+2) _ ((hP.sub hin).mono Sb) (hv.sub hin) (by omega)) ?_;rintro _ _ ⟨a61,c61,bl61,ss61,rfl,hR61,hJ61,rfl⟩;have hs61:=congrArg List.length hJ61;rw[List.length_map]at hs61;refine WL.perm ((Mv.perm).cons _) ?_;refine kR a61 λp61 q61 r61=>?_
 have hln2:((ss++[((d+1,⟨some ⟨b48,0,none⟩,2,[A0 [80,82,79,67,69,83,83,79,82],⟨3,0,[],IntKind.i32.wrap y⟩]⟩):Lsl)])++ss61).length=(ss++[((d+1,⟨some ⟨b48,0,none⟩,2,[A0 [80,82,79,67,69,83,83,79,82],⟨3,0,[],IntKind.i32.wrap y⟩]⟩):Lsl)]).length+ss61.length:=List.length_append;refine xD a3g (Ev.tmp rfl) (Ev.tmp rfl) hln2.symm (Q8 (enc:=lnE) (ss++[((d+1,⟨some ⟨b48,0,none⟩,2,[A0 [80,82,79,67,69,83,83,79,82],⟨3,0,[],IntKind.i32.wrap y⟩]⟩):Lsl)]) ss61).symm λa62 c62=>?_;refine kA1 ?_;rw[<-List.append_assoc bl61];refine ZZ [0,3] ?_
 refine WL.nil (A6 (p.ll.length-(j+1)) [(5,.slice a62 ((ss++[((d+1,⟨some ⟨b48,0,none⟩,2,[A0 [80,82,79,67,69,83,83,79,82],⟨3,0,[],IntKind.i32.wrap y⟩]⟩):Lsl)])++ss61).length c62),(6,.int .i64 (j+1))] (h'':=.row (.slice a62 ((ss++[((d+1,⟨some ⟨b48,0,none⟩,2,[A0 [80,82,79,67,69,83,83,79,82],⟨3,0,[],IntKind.i32.wrap y⟩]⟩):Lsl)])++ss61).length c62) 70 2 ((ss++[((d+1,⟨some ⟨b48,0,none⟩,2,[A0 [80,82,79,67,69,83,83,79,82],⟨3,0,[],IntKind.i32.wrap y⟩]⟩):Lsl)])++ss61).length (fl lnE ((ss++[((d+1,⟨some ⟨b48,0,none⟩,2,[A0 [80,82,79,67,69,83,83,79,82],⟨3,0,[],IntKind.i32.wrap y⟩]⟩):Lsl)])++ss61))::.pt b2 (.cells (prE p).toArray 45 (0,0))::((.pt b48 (.cells (fl A3 [A0 [80,82,79,67,69,83,83,79,82],⟨3,0,[],IntKind.i32.wrap y⟩]).toArray 97 (0,0))::(bl61++bl))++h)) (by omega) ?_ Su Sb ⟨a62,c62,(ss++[((d+1,⟨some ⟨b48,0,none⟩,2,[A0 [80,82,79,67,69,83,83,79,82],⟨3,0,[],IntKind.i32.wrap y⟩]⟩):Lsl)])++ss61,.pt b48 (.cells (fl A3 [A0 [80,82,79,67,69,83,83,79,82],⟨3,0,[],IntKind.i32.wrap y⟩]).toArray 97 (0,0))::(bl61++bl),j+1,⟨⟨by omega,(((hR.mono ((List.sublist_append_right _ _).cons _)).app (b8G (by simp) (List.Mem.head _))).app (hR61.mono ((List.sublist_append_left _ _).cons _)))⟩,by rw[List.map_append,List.map_append,hJ,hJ61,htk];simp[unL]⟩,rfl,rfl,rfl⟩)
 exact Su;rw[if_neg c36]at htk;have htl:=congrArg List.length htk;rw[List.length_append]at htl;refine kA8 ?_;refine xg (E2 Et Et) (ih x hin (d+1) _ ((hP.sub hin).mono Sb) (hv.sub hin) (by omega)) ?_;rintro _ _ ⟨a71,c71,bl71,ss71,rfl,hR71,hJ71,rfl⟩;have hs71:=congrArg List.length hJ71;rw[List.length_map]at hs71;refine WL.perm ((Mv.perm).cons _) ?_;refine kR a71 λp71 q71 r71=>?_
 have hln2:(ss++ss71).length=ss.length+ss71.length:=List.length_append;refine xD a3g (Ev.tmp rfl) (Ev.tmp rfl) hln2.symm (Q8 (enc:=lnE) ss ss71).symm λa72 c72=>?_;refine kA1 ?_;rw[<-List.append_assoc bl71];refine ZZ [0,3] ?_;refine WL.nil (A6 (p.ll.length-(j+1)) [(5,.slice a72 (ss++ss71).length c72),(6,.int .i64 (j+1))] (h'':=.row (.slice a72 (ss++ss71).length c72) 70 2 (ss++ss71).length (fl lnE (ss++ss71))::.pt b2 (.cells (prE p).toArray 45 (0,0))::((bl71++bl)++h)) (by omega) ?_ Su Sb ⟨a72,c72,ss++ss71,bl71++bl,j+1,⟨⟨by omega,(hR.mono (List.sublist_append_right _ _)).app (hR71.mono (List.sublist_append_left _ _))⟩,by rw[List.map_append,hJ,hJ71,htk];rfl⟩,rfl,rfl,rfl⟩);exact Su;rw[List.take_of_length_le (by omega)]at hJ;refine ZZ [0,1,0] ?_
 refine B1 [1,2] rfl (λμ F' h'=>∃a9:Option Addr,∃c9:Nat,∃ss:List Lsl,∃bl:List Res,∃j:Nat,((j<=p.gl.length/\LiR m bl ss)/\ss.map unL=(d,FT)::(F1 p.k p.pn.l p.ll d++H8 (p.gl.take j) (d+1)))/\p.gl.length-j=μ/\F'=[(5,.slice a9 ss.length c9),(7,.int .i64 j)]/\.row (.slice a9 ss.length c9) 70 2 ss.length (fl lnE ss)::.pt b2 (.cells (prE p).toArray 45 (0,0))::(bl++h)=h') (p.gl.length-0) [(5,.slice a9 ss.length c9),(7,.int .i64 0)] (h0:=.row (.slice a9 ss.length c9) 70 2 ss.length (fl lnE ss)::.pt b2 (.cells (prE p).toArray 45 (0,0))::(bl++h)) ?_ Sb ⟨a9,c9,ss,bl,0,⟨⟨Nat.zero_le _,hR⟩,by rw[hJ];exact congrArg _ (List.append_nil _).symm⟩,rfl,rfl,rfl⟩ ?_;exact Su;rintro _ _ _ ⟨a9,c9,ss,bl,j,⟨⟨hj,hR⟩,hJ⟩,rfl,rfl,rfl⟩;refine B2 rfl ?_;refine Z5 ?_;refine wD ?_ ?_<;>intro c77
 obtain⟨g,hg1⟩:=A5 (l:=p.gl) (k:=j) (by omega);have hgm:=List.mem_of_getElem? hg1;have hgO:=hO.gs g hgm;have hgu:=(hV.gs g hgm).1;have hgb:=(a9r hgu hgO.k.1).2.1;have hgr:=hgO.b;obtain⟨x,hx⟩:=A5 (l:=g.bl) (k:=0) (by omega);have hin:In x p:=.g hgm (List.mem_of_getElem? hx);have hlt:=hin.lt;have hbe:g.bl=[x]:=by
  cases hb:g.bl with
  |nil=>rw[hb]at hx;cases hx
  |cons z r=>
   rw[hb]at hx hgb;cases hx;cases r with
   |nil=>rfl
   |cons u v=>simp at hgb
 obtain⟨GT,hGT⟩:∃T,T=H0 g.k g.name g.cond g.ch g.tg.l g.vl.l g.time:=⟨_,rfl⟩;have htk:H8 (p.gl.take (j+1)) (d+1)=H8 (p.gl.take j) (d+1)++((d+1,GT)::D6 x (d+2)):=by rw[a4K hg1,a7y,hbe,hGT,show d+2=d+1+1 by omega];rfl
 have htl:=congrArg List.length htk;rw[List.length_append,List.length_cons]at htl;have hsl:=congrArg List.length hJ;rw[List.length_map,List.length_cons,List.length_append]at hsl;have hle:=b0c (d:=d+1) (l:=p.gl) (j:=j+1);refine ZZ [0,8] ?_;refine xJ (E1 Et) (a9b g _ (hgO.mono Sb) hgu) λa88 c88=>?_
 refine a1L (h':=.row (.slice a88 GT.length c88) 97 4 GT.length (fl A3 GT)::_) (by rw[hGT]) ?_;refine WL.val (v':=.slice a88 GT.length c88) (by rw[hGT]) ?_;refine kR a88 λp88 q88 r88=>?_;refine kA1 ?_;refine xY a3g Eb λb90=>?_
 have hln:(ss++[((d+1,⟨a88,c88,GT⟩):Lsl)]).length=ss.length+1:=List.length_append;refine xD a3g (Ev.tmp rfl) (Ev.tmp rfl) hln.symm (D4 (enc:=lnE) _ (((d+1,⟨a88,c88,GT⟩):Lsl))) λa91 c91=>?_;refine WL.perm ((Del.perm (r:=.row (.slice a88 GT.length c88) 97 4 GT.length (fl A3 GT)) De).trans (Mv1.perm (by(repeat (first|apply Mv1.cons|exact Mv1.stop))))) ?_;refine ZZ [1,7] ?_;refine xG (D8 T9.und T9.size T9.posz (Ev.tmp rfl) Ek Rr rfl (q:=0) (by omega)) ?_;refine kA3 ?_;refine xg (E2 Et Et) (ih x hin (d+2) _ ((hP.sub hin).mono Sb) (hv.sub hin) (by omega)) ?_;rintro _ _ ⟨a103,c103,bl103,ss103,rfl,hR103,hJ103,rfl⟩;have hs103:=congrArg List.length hJ103;rw[List.length_map]at hs103;refine WL.perm ((Mv.perm).cons _) ?_;refine kR a103 λp103 q103 r103=>?_
 have hln2:((ss++[((d+1,⟨a88,c88,GT⟩):Lsl)])++ss103).length=(ss++[((d+1,⟨a88,c88,GT⟩):Lsl)]).length+ss103.length:=List.length_append;refine xD a3g (Ev.tmp rfl) (Ev.tmp rfl) hln2.symm (Q8 (enc:=lnE) (ss++[((d+1,⟨a88,c88,GT⟩):Lsl)]) ss103).symm λa104 c104=>?_;refine kA1 ?_;rw[<-List.append_assoc bl103];refine ZZ [0,3] ?_;refine WL.nil (A6 (p.gl.length-(j+1)) [(5,.slice a104 ((ss++[((d+1,⟨a88,c88,GT⟩):Lsl)])++ss103).length c104),(7,.int .i64 (j+1))] (h'':=.row (.slice a104 ((ss++[((d+1,⟨a88,c88,GT⟩):Lsl)])++ss103).length c104) 70 2 ((ss++[((d+1,⟨a88,c88,GT⟩):Lsl)])++ss103).length (fl lnE ((ss++[((d+1,⟨a88,c88,GT⟩):Lsl)])++ss103))::.pt b2 (.cells (prE p).toArray 45 (0,0))::((.row (.slice a88 GT.length c88) 97 4 GT.length (fl A3 GT)::(bl103++bl))++h)) (by omega) ?_ Su Sb ⟨a104,c104,(ss++[((d+1,⟨a88,c88,GT⟩):Lsl)])++ss103,.row (.slice a88 GT.length c88) 97 4 GT.length (fl A3 GT)::(bl103++bl),j+1,⟨⟨by omega,(((hR.mono ((List.sublist_append_right _ _).cons _)).app (b1D r88 p88 q88 (List.Mem.head _))).app (hR103.mono ((List.sublist_append_left _ _).cons _)))⟩,by rw[List.map_append,List.map_append,hJ,hJ103,htk];simp[unL]⟩,rfl,rfl,rfl⟩);exact Su
 rw[List.take_of_length_le (by omega)]at hJ;refine ZZ [0,2,0] ?_;refine wT (.row (.slice a9 ss.length c9) 70 2 ss.length (fl lnE ss)::(bl++h)) ?_;exact⟨a9,c9,bl,ss,rfl,hR,by rw[hJ,hls],rfl⟩
end
end Go.Proofs.YtkgfanibfkdbfaaGreatDoor
namespace Go.Proofs.YtkgfanibfkdbfaaGreatDoor.L8
open Go.Proofs.Tryz
section
open Go.Eng Go.Lx Go.Ty
theorem c0J(h:List Res)(m:View):CT prog 173 [] h m (λv _ h'=>∃b,v=.slice (some ⟨b,0,none⟩) 28 28/\h'=.pt b (.cells (fl encB a5D).toArray 9 (0,0))::h):=by
 refine cB [0] func173 λ_=>?_;refine Z1 ?_;refine xY P6 Eb λb1=>?_
 refine Z1 ?_;refine wT (.pt b1 (.cells (fl encB a5D).toArray 9 (0,0))::h) ?_;exact⟨b1,rfl,rfl⟩
theorem a0Z(s:B)(h:List Res)(m:View):CT prog 97 [str s] h m (A7 h (.bool (c2d s))):=by
 refine cB [0,2] func97 λ_=>?_;refine ZZ [1,1] ?_;refine xg E0 (c0J _ _) ?_;rintro _ _ ⟨b4,rfl,rfl⟩;refine xf (E2 Et Et) (b2q _ _ _ _ a5D _ _ Rr) ?_;refine Z1 ?_;refine wT h ?_;exact⟨rfl,rfl⟩
theorem c4p(t:Tok)(h:List Res)(m:View)(hs:t.text.length<=140737488355328):CT prog 44 [O4 t] h m (A7 h (.bool (J7 t))):=by
 have hs':t.text.length<=9223372036854775807:=by omega
 refine cB [1,2,10,12,13,23,33,38,53] func44 λ_=>?_;refine xX λb1=>?_
 refine ZZ [1,8,0] ?_;refine wc ?_ ?_<;>intro c10
 have d:J7 t=false:=by unfold J7;rw[show(decide (t.at_<0)||decide (t.at_>=256))=true by simp at c10⊢;omega];rfl
 refine Z1 ?_;refine wT h ?_;rw[d];exact⟨rfl,rfl⟩
 have d10:(decide (t.at_<0)||decide (t.at_>=256))=false:=by simp at c10⊢;omega
 refine ZZ [0,2,2,0] ?_;refine wc ?_ ?_<;>intro c13
 refine kA2 ?_;refine xf (E1 Et) (a06 _ _ _ (by assumption)) ?_;refine Z6 ?_;refine wT h ?_;exact⟨by unfold J7;rw[d10,c13,<-name_eq];simp[Bool.and_comm],rfl⟩;refine Z2 ?_;refine wc ?_ ?_<;>intro c23
 refine kA2 ?_;refine xf (E1 Et) (a8N _ _ _) ?_;refine Z6 ?_;refine wT h ?_;exact⟨by unfold J7;rw[d10,c13,c23,<-key_eq];simp[Bool.and_comm],rfl⟩;refine Z2 ?_;refine wc ?_ ?_<;>intro c33
 have k5:(t.kind==5)=false:=by rw[eq_of_beq c33];rfl
 have k4:(t.kind==4)=false:=by rw[eq_of_beq c33];rfl
 refine kA2 ?_;refine xG (H3 Et Ek) ?_;refine Z1 ?_;refine wT h ?_;exact⟨by unfold J7;rw[d10,c13,c23,k5,k4,c33];rfl,rfl⟩;refine Z2 ?_;refine wc ?_ ?_<;>intro c38
 have k5:(t.kind==5)=false:=by rw[eq_of_beq c38];rfl
 refine kA2 ?_;refine xG (H3 Et Ek) ?_;refine Z11 ?_;refine wT h ?_;exact⟨by unfold J7;rw[d10,c13,c23,k5,c38];simp only[Bool.false_eq_true,if_false,if_true];congr 2;apply decide_eq_decide.2;omega,rfl⟩;refine Z2 ?_;refine wc ?_ ?_<;>intro c53
 refine kA2 ?_;refine xf (E1 Et) (a0Z _ _ _) ?_;refine Z6 ?_;refine wT h ?_;exact⟨by unfold J7;rw[d10,c13,c23,c53,<-b6c];simp[Bool.and_comm],rfl⟩;refine ZZ [0,1,0] ?_;refine wT h ?_;exact⟨by unfold J7;rw[d10,c13,c23,c53,c38,c33];rfl,rfl⟩
theorem c1m(t b:Nat):((t:Int)).tmod (b:Int)=((t%b:Nat):Int):=by rw[Int.tmod_eq_emod_of_nonneg (Int.natCast_nonneg _)];rfl
theorem c9f{t b:Nat}(h:t<4294967296):IntKind.i64.wrap (((t:Int)).tdiv (b:Int))=((t/b:Nat):Int):=by rw[Int.tdiv_eq_ediv_of_nonneg (Int.natCast_nonneg _)];have h2:((t:Int))/(b:Int)=((t/b:Nat):Int):=rfl;have h3:t/b<=t:=Nat.div_le_self _ _;rw[h2];generalize t/b=q at h3⊢;unfold IntKind.wrap;simp[IntKind.bits,IntKind.signed];omega
theorem b7X(b u:Nat):∀i,(low b u i).length=i
 |0=>rfl
 |i+1=>by show(low b u i).length+1=_;rw[b7X b u i]
theorem c4B{b i:Nat}(hb:10<=b)(hi:10<=i):4294967296<b^i:=
 Nat.lt_of_lt_of_le (show 4294967296<10^10 by decide) (Nat.le_trans (Nat.pow_le_pow_left hb 10) (Nat.pow_le_pow_right (by omega) hi))
def c79(u base:Nat):B:=if base=16 then a0o u 8 else Lib.decDigits u
theorem c5L{u base least i:Nat}(hb:(base=16/\least=8)\/(base=10/\least=1))(hu:u<4294967296)(h1:least<=i)(h0:u/base^i=0)(h2:i<=least\/0<u/base^(i-1)):low base u i=c79 u base:=by
 rcases hb with⟨rfl,rfl⟩|⟨rfl,rfl⟩
 ·have:i=8:=by
   rcases h2 with h2|h2
   ·omega
   ·rcases Nat.lt_or_ge 8 i with h3|h3
    ·have h4:(16:Nat)^8<=16^(i-1):=Nat.pow_le_pow_right (by decide) (by omega)
     rw[Nat.div_eq_of_lt (by omega)]at h2;omega
    ·omega
  subst this;rw[b7R];rfl
 ·obtain⟨j,rfl⟩:∃j,i=j+1:=⟨i-1,by omega⟩
  show _=Lib.decDigits u;refine b8I j u h0 ?_;rcases h2 with h2|h2
  ·left;omega
  ·right;exact h2
theorem b1q(u base least:Nat)(h:List Res)(m:View)(hb:(base=16/\least=8)\/(base=10/\least=1))(hu:u<4294967296) :
 CT prog 174 [.int .i64 u,.int .i64 base,.int .i64 least] h m (A7 h (str (c79 u base))):=by
 have hb2:base=16\/base=10:=by omega
 refine cB [0,1,2,6,7,8,15] func174 λ_=>?_;refine ZZ [1,1,1,0] ?_;refine B1 [1,2] rfl (λμ F' h'=>∃i:Nat,∃t:Nat,∃s:B,(((t=u/base^i/\s=low base u i)/\i<=10)/\(i<=least\/0<u/base^(i-1)))/\t+(least-i)=μ/\F'=[(0,.int .i64 t),(7,str s),(8,.int .i64 i)]/\h=h') (u+(least-0)) [(0,.int .i64 u),(7,str ([])),(8,.int .i64 0)] (h0:=h) ?_ Sb ⟨0,u,[],⟨⟨⟨by rw[Nat.pow_zero,Nat.div_one],rfl⟩,by omega⟩,.inl (by omega)⟩,rfl,rfl,rfl⟩ ?_;exact Su;rintro _ _ _ ⟨i,t,s,⟨⟨⟨ht,hs⟩,hi⟩,hx⟩,rfl,rfl,rfl⟩;refine B2 rfl ?_;refine Z7 ?_;refine wc ?_ ?_<;>intro c15
 have hle:t<=u:=by rw[ht];exact Nat.div_le_self _ _
 have hi10:i<10:=by
  rcases Nat.lt_or_ge i 10 with h1|h1
  ·exact h1
  ·have hp:=c4B (b:=base) (by omega) h1
   rw[Nat.div_eq_of_lt (by omega)]at ht;simp at c15;omega
 have hsl:s.length<=10:=by rw[hs,b7X];exact hi
 have hm:t%base<16:=by have:=Nat.mod_lt t (show 0<base by omega);omega
 have hdec:t/base+(least-(i+1))<t+(least-i):=by
  rcases Nat.eq_zero_or_pos t with h0|h0
  ·subst h0
   simp at c15;rw[Nat.zero_div];omega
  ·have:=Nat.div_lt_self h0 (show 1<base by omega)
   omega
 have hnx:i+1<=least\/0<u/base^(i+1-1):=by rw[Nat.add_sub_cancel,<-ht];simp at c15;omega
 have hlo:[H7.getD (t%base) 0]++s=low base u (i+1):=by rw[ht,hs];rfl
 refine Z0 ?_;refine dS [] (.op 0 (.op 1 (.op 2 (.op 3 (.op 4 (.op 5 (.op 6 (.op 7 (.op 8 .nil))))))))) [9,10] C4 ?_;refine kA2 ?_;refine yG rfl (PO.rem Et Et (by omega)) ?_;refine SR.val (v':=.int .i64 ((t%base:Nat):Int)) (congrArg (Value.int .i64) (c1m t base)) ?_;refine kA2 ?_;refine yG rfl (PO.rem Et Et (by omega)) ?_;refine SR.val (v':=.int .i64 ((t%base:Nat):Int)) (congrArg (Value.int .i64) (c1m t base)) ?_;refine yG rfl (L6 Et Ek (by omega)) ?_;refine SR.val (v':=.int .i64 ((t%base+1:Nat):Int)) rfl ?_;refine yG rfl (V3 (s:=H7) (l:=t%base) (u:=t%base+1) uu9 Ek Et Et rfl rfl (by omega) (by show _<=16;omega)) ?_;refine SR.val (v':=str [H7.getD (t%base) 0]) (congrArg str (a2C (by show _<16;omega))) ?_;refine kA1 ?_;refine SR.nil rfl rfl ?_;refine xG (R2 Et Et (by simp;omega)) ?_;refine ZZ [1,2] ?_;refine xG (PO.quo Et Et (by omega)) ?_
 refine WL.val (v':=.int .i64 ((t/base:Nat):Int)) (congrArg (Value.int .i64) (c9f (by omega))) ?_;refine ZZ [1,3] ?_;refine WL.nil (A6 ((t/base)+(least-(i+1))) [(0,.int .i64 (t/base)),(7,str ([H7.getD (t%base) 0]++s)),(8,.int .i64 (i+1))] (h'':=h) (by omega) ?_ Su Sb ⟨i+1,t/base,[H7.getD (t%base) 0]++s,⟨⟨⟨by rw[ht,Nat.div_div_eq_div_mul,Nat.pow_succ],hlo⟩,by omega⟩,hnx⟩,rfl,rfl,rfl⟩);exact Su;have hend:least<=i/\t=0:=by simp at c15;omega
 have hE:=c5L hb hu hend.1 (by rw[<-ht];exact hend.2) hx;refine ZZ [0,2,0] ?_;refine wT h ?_;exact⟨by rw[hs,hE],rfl⟩
theorem b4i(v:Int)(h:List Res)(m:View)(hv:-2147483648<=v/\v<=2147483647):CT prog 175 [.int .i32 v] h m (A7 h (.int .i64 (IntKind.u32.wrap v))):=by
 have hw:IntKind.i64.wrap v=v:=by unfold IntKind.wrap;simp[IntKind.bits,IntKind.signed];omega
 refine cB [0,2,4] func175 λ_=>?_;refine ZZ [1,2,0] ?_;refine wD ?_ ?_<;>intro c4
 refine kA1 ?_;refine xG (PO.conv a1X uu2 Et) ?_;refine WL.val (v':=.int .i64 v) (congrArg (Value.int .i64) hw) ?_;refine Z2 ?_;refine wT h ?_;exact⟨congrArg (Value.int .i64) (by unfold IntKind.wrap;simp[IntKind.bits,IntKind.signed];omega),rfl⟩;refine ZZ [0,1] ?_;refine xG (PO.conv a1X uu2 Et) ?_;refine WL.val (v':=.int .i64 v) (congrArg (Value.int .i64) hw) ?_;refine Z1 ?_;refine wT h ?_;exact⟨congrArg (Value.int .i64) (by unfold IntKind.wrap;simp[IntKind.bits,IntKind.signed];omega),rfl⟩
theorem b9S(v:Int)(h:List Res)(m:View)(hv:0<=v/\v<=2147483647):CT prog 176 [.int .i32 v] h m (A7 h (.int .i64 v)):=by
 have hw:IntKind.i64.wrap v=v:=by unfold IntKind.wrap;simp[IntKind.bits,IntKind.signed];omega
 refine cB [0,2,4] func176 λ_=>?_;refine ZZ [1,2,0] ?_;refine wD ?_ ?_<;>intro c4
 omega;refine ZZ [0,1] ?_;refine xG (PO.conv a1X uu2 Et) ?_;refine WL.val (v':=.int .i64 v) (congrArg (Value.int .i64) hw) ?_;refine Z1 ?_;refine wT h ?_;exact⟨rfl,rfl⟩
theorem c0n(v:Int)(h:List Res)(m:View)(hv:-2147483648<=v/\v<=2147483647):CT prog 98 [.int .i32 v,.bool (decide (v<0))] h m (A7 h (str (X2 v (decide (v<0))))):=by
 obtain⟨h1,h2⟩:=c1Z v;obtain⟨u,hu⟩:∃u:Nat,IntKind.u32.wrap v=u:=⟨(IntKind.u32.wrap v).toNat,by omega⟩;have hx8:(c79 u 16).length=8:=by show(a0o u 8).length=8;rw[a4r]
 refine cB [0,1,4,5,11] func98 λ_=>?_;refine ZZ [1,1,0] ?_;refine wc ?_ ?_<;>intro c5
 refine kA1 ?_;refine xf (E1 Et) (b4i v _ _ hv) ?_;refine WL.val (v':=.int .i64 (u:Int)) (congrArg (Value.int .i64) hu) ?_;refine xf (E3 Et Ek Ek) (CT.argsE rfl (b1q u 16 8 _ _ (.inl ⟨rfl,rfl⟩) (by omega))) ?_;refine xG (R2 Ek Et (by simp;omega)) ?_;refine Z1 ?_;refine wT h ?_;exact⟨by rw[c5];unfold X2;rw[hu];rfl,rfl⟩;have hn:0<=v:=by have:=of_decide_eq_false c5;omega
 obtain⟨q,rfl⟩:∃q:Nat,v=q:=⟨v.toNat,by omega⟩;refine ZZ [0,2,0] ?_;refine wD ?_ ?_<;>intro c11
 omega;refine ZZ [0,1] ?_;refine xf (E1 Et) (b9S q _ _ (by omega)) ?_;refine xf (E3 Et Ek Ek) (CT.argsE rfl (b1q q 10 1 _ _ (.inr ⟨rfl,rfl⟩) (by omega))) ?_;refine Z1 ?_;refine wT h ?_;exact⟨by rw[c5];unfold X2 Lib.itoa;rw[if_neg (by decide),if_neg (by omega)];rfl,rfl⟩
theorem c6M{v:Nat}(h:v<256):IntKind.i32.wrap (((v:Int)).tdiv 16)=((v/16:Nat):Int):=by
 have:∀v,v<256->IntKind.i32.wrap ((((v:Nat)):Int).tdiv 16)=((v/16:Nat):Int):=by decide +kernel
 exact this v h
theorem c6H(v:Nat):((v:Int)).tmod 16=((v%16:Nat):Int):=c1m v 16
theorem b8W(v:Nat)(h:List Res)(m:View)(hv:v<256):CT prog 99 [.int .i32 v] h m (A7 h (str (a3H v))):=by
 refine cB [0,2,3,4,7,10,13,16,19] func99 λ_=>?_;refine ZZ [1,1,3,0] ?_;refine wc ?_ ?_<;>intro c4
 have e:v=13:=by simp at c4;omega
 subst e;refine Z1 ?_;refine wT h ?_;exact⟨rfl,rfl⟩;refine Z3 ?_;refine wc ?_ ?_<;>intro c7
 have e:v=10:=by simp at c7;omega
 subst e;refine Z1 ?_;refine wT h ?_;exact⟨rfl,rfl⟩;refine Z3 ?_;refine wc ?_ ?_<;>intro c10
 have e:v=9:=by simp at c10;omega
 subst e;refine Z1 ?_;refine wT h ?_;exact⟨rfl,rfl⟩;refine Z3 ?_;refine wc ?_ ?_<;>intro c13
 have e:v=39:=by simp at c13;omega
 subst e;refine Z1 ?_;refine wT h ?_;exact⟨rfl,rfl⟩;refine Z3 ?_;refine wc ?_ ?_<;>intro c16
 have e:v=42:=by simp at c16;omega
 subst e;refine Z1 ?_;refine wT h ?_;exact⟨rfl,rfl⟩;have hs:=c2g hv (by simp at c4 c7 c10 c13 c16;omega);refine Z7 ?_;refine wc ?_ ?_<;>intro c19
 have hc:(decide ((v:Int)<32)||decide ((v:Int)>126))=false:=by simp at c19⊢;omega
 rw[hc]at hs;refine kA1 ?_;refine xG (PO.conv a1X uu5 Et) ?_;refine WL.val (v':=.int .u8 ((UInt8.ofNat v).toNat:Int)) (congrArg (Value.int .u8) (c6J v)) ?_;refine xY c6I Eb λb28=>?_
 refine xG (b4T (bs:=[UInt8.ofNat v]) b5w uu5 uu9 Et (Rd.ofPt rfl (by decide) Me)) ?_;refine Z1 ?_;refine wT h ?_;exact⟨by rw[hs];rfl,rfl⟩;have hc:(decide ((v:Int)<32)||decide ((v:Int)>126))=true:=by simp at c19⊢;omega
 rw[hc]at hs;refine Z0 ?_;refine dS [] (.op 0 (.op 1 (.op 2 (.op 3 (.op 4 (.op 5 (.op 6 (.op 7 (.op 8 (.op 9 (.op 10 (.op 11 (.op 12 (.op 13 (.op 14 .nil))))))))))))))) [15,16] C4 ?_;refine kA2 ?_;refine yG rfl (PO.quo Et Ek (by decide)) ?_;refine SR.val (v':=.int .i32 ((v/16:Nat):Int)) (congrArg (Value.int .i32) (c6M hv)) ?_;refine kA1 ?_;refine yG rfl (PO.quo Et Ek (by decide)) ?_;refine SR.val (v':=.int .i32 ((v/16:Nat):Int)) (congrArg (Value.int .i32) (c6M hv)) ?_;refine yG rfl (P0 Et Ek rfl) ?_;refine SR.val (v':=.int .i32 ((v/16+1:Nat):Int)) (congrArg (Value.int .i32) (b3f (by omega))) ?_;refine yG rfl (V3 (s:=H7) (l:=v/16) (u:=v/16+1) uu9 Et Et Et rfl rfl (by omega) (by show _<=16;omega)) ?_;refine SR.val (v':=str [H7.getD (v/16) 0]) (congrArg str (a2C (by show _<16;omega))) ?_;refine yG rfl (R2 Ek Et (by simp)) ?_;refine kA2 ?_
 refine yG rfl (PO.rem Et Ek (by decide)) ?_;refine SR.val (v':=.int .i32 ((v%16:Nat):Int)) (congrArg (Value.int .i32) (c6H v)) ?_;refine kA1 ?_;refine yG rfl (PO.rem Et Ek (by decide)) ?_;refine SR.val (v':=.int .i32 ((v%16:Nat):Int)) (congrArg (Value.int .i32) (c6H v)) ?_;refine yG rfl (P0 Et Ek rfl) ?_;refine SR.val (v':=.int .i32 ((v%16+1:Nat):Int)) (congrArg (Value.int .i32) (b3f (by omega))) ?_;refine yG rfl (V3 (s:=H7) (l:=v%16) (u:=v%16+1) uu9 Et Et Et rfl rfl (by omega) (by show _<=16;omega)) ?_;refine SR.val (v':=str [H7.getD (v%16) 0]) (congrArg str (a2C (by show _<16;omega))) ?_;refine SR.nil rfl rfl ?_;refine xG (R2 Et Et (by simp)) ?_;refine Z1 ?_;refine wT h ?_;exact⟨by rw[hs];rfl,rfl⟩
theorem c7m(t:Tok)(h:List Res)(m:View)(hn:-2147483648<=t.n/\t.n<=2147483647)(hk:J7 t=true):CT prog 46 [O4 t] h m (A7 h (str (Y2 t))):=by
 refine cB [1,2,4,5,13] func46 λ_=>?_;refine xX λb1=>?_
 refine ZZ [1,2,2,0] ?_;refine wc ?_ ?_<;>intro c5
 refine kA5 ?_;refine xf (E2 Et Et) (c0n t.n _ _ hn) ?_;refine Z1 ?_;refine wT h ?_;exact⟨by unfold Y2;rw[c5];rfl,rfl⟩;refine Z2 ?_;refine wc ?_ ?_<;>intro c13
 have hb:0<=t.n/\t.n<256:=by have e:t.kind=4:=eq_of_beq c13;unfold J7 at hk;rw[e]at hk;simp at hk;omega
 have hsl:=a7M t.n.toNat;refine kA2 ?_;refine WL.val (v':=.int .i32 (t.n.toNat:Int)) (congrArg (Value.int .i32) (by omega)) ?_;refine xf (E1 Et) (b8W t.n.toNat _ _ (by omega)) ?_;refine xG (R2 Ek Et (by simp;omega)) ?_;refine xG (R2 Et Ek (by simp;omega)) ?_;refine Z1 ?_;refine wT h ?_;exact⟨by unfold Y2;rw[c5,c13];rfl,rfl⟩;refine ZZ [0,3,0] ?_;refine wT h ?_;exact⟨by unfold Y2;rw[c5,c13];rfl,rfl⟩
theorem c5b(a b:Tok)(h:List Res)(m:View):CT prog 45 [O4 a,O4 b] h m (A7 h (.bool (b1M a b))):=by
 refine cB [2,3,4,5,24,37] func45 λ_=>?_;refine xX λb2=>?_
 refine xX λb3=>?_;refine ZZ [1,6] ?_;refine zG (λhc=>H3 (Eg hc) Ek) ?_;refine kA3 ?_;refine zG (λhc=>H3 (Eg hc) Ek) ?_;refine zG (λhc=>S0 hc rfl rfl) ?_;refine ZZ [2,6,0] ?_;refine wc ?_ ?_<;>intro c24
 have d24:(a3L b&&(a.kind==1))=true:=c24;refine Z1 ?_;refine wT h ?_;exact⟨by unfold b1M;rw[d24];rfl,rfl⟩;have d24:(a3L b&&(a.kind==1))=false:=c24;refine ZZ [0,6] ?_;refine zG (λhc=>H3 (Eg hc) Ek) ?_;refine kA3 ?_;refine zG (λhc=>H3 (Eg hc) Ek) ?_;refine zG (λhc=>S0 hc rfl rfl) ?_;refine Z1 ?_;refine wc ?_ ?_<;>intro c37
 have d37:a3L a=true:=c37;refine Z1 ?_;refine wT h ?_;exact⟨by unfold b1M;rw[d24,d37];rfl,rfl⟩;have d37:a3L a=false:=c37;refine ZZ [0,6] ?_;refine zG (λhc=>H3 (Eg hc) Ek) ?_;refine kA3 ?_;refine zG (λhc=>H3 (Eg hc) Ek) ?_;refine zG (λhc=>S0 hc rfl rfl) ?_;refine kA3 ?_;refine zG (λhc=>H3 (Eg hc) Ek) ?_;refine zG (λhc=>S0 hc rfl rfl) ?_;refine kA3 ?_;refine zG (λhc=>H3 (Eg hc) Ek) ?_;refine zG (λhc=>S0 hc rfl rfl) ?_;refine kA3 ?_;refine zG (λhc=>H3 (Eg hc) Ek) ?_;refine zG (λhc=>S0 hc rfl rfl) ?_;refine Z2 ?_;refine wT h ?_;exact⟨by unfold b1M;rw[d24,d37];rfl,rfl⟩
theorem rTextL_ct(a:Option Addr)(k c:Nat)(l:List Tok)(h:List Res)(m:View)(hs:Rd m h a k c 4 (fl A3 l))(hT:TkL l) :
 CT prog 18 [.slice a k c] h m (A7 h (.tuple #[str (textO l).1,.int .i64 (textO l).2])):=by
 have hl:=hs.lenF B8 (by decide);subst hl;have hmx:=hs.mx;have hle:=hs.le;have hq:∀n:Nat,n<l.length->l[n]?=some (l.getD n zeroK):=λn hn=>by rw[List.getD_eq_getElem?_getD,List.getElem?_eq_getElem hn];rfl
 refine cB [0,2,3,4,5,6,10,18,22,51] func18 λ_=>?_;refine ZZ [2,1,0] ?_;refine B1 [0] rfl (λμ F' h'=>∃i:Nat,(i<=l.length/\(l.take i).any (λt=>!J7 t)=false)/\l.length-i=μ/\F'=[(4,.int .i64 i)]/\h=h') (l.length-0) [(4,.int .i64 0)] (h0:=h) ?_ Sb ⟨0,⟨by omega,rfl⟩,rfl,rfl,rfl⟩ ?_;exact Su;rintro _ _ _ ⟨i,⟨hi,hJ⟩,rfl,rfl,rfl⟩;refine B2 rfl ?_;refine Z4 ?_;refine wD ?_ ?_<;>intro c10
 obtain⟨x,hx⟩:=A5 (l:=l) (k:=i) (by omega);have hxT:=hT x (List.mem_of_getElem? hx);refine ZZ [0,4] ?_;refine xf (E1 Et) (c4p x _ _ hxT.2) ?_;refine Z1 ?_;refine wc ?_ ?_<;>intro c18
 have d18:J7 x=false:=by simpa using c18
 have hO:=b1Q (b8l hx d18);refine Z2 ?_;refine w2 h ?_;exact⟨by rw[hO],rfl⟩;have d18:J7 x=true:=by simpa using c18
 have hJ2:=b5Y hx d18 hJ;refine ZZ [0,3] ?_;refine WL.nil (A6 (l.length-(i+1)) [(4,.int .i64 (i+1))] (h'':=h) (by omega) ?_ Su Sb ⟨i+1,⟨by omega,hJ2⟩,rfl,rfl,rfl⟩);exact Su;rw[List.take_of_length_le (by omega)]at hJ;have hall:∀x,x∈l->J7 x=true:=λx hx=>by
  have:=List.any_eq_false.1 hJ x hx;simpa using this
 refine ZZ [0,1,1,0] ?_;refine B1 [0] rfl (λμ F' h'=>∃i:Nat,∃s:B,((i<=l.length/\s.length<=256)/\s=textL none (l.take i))/\l.length-i=μ/\F'=[(5,str s),(6,.int .i64 i)]/\h=h') (l.length-0) [(5,str ([])),(6,.int .i64 0)] (h0:=h) ?_ Sb ⟨0,[],⟨⟨by omega,by decide⟩,rfl⟩,rfl,rfl,rfl⟩ ?_;exact Su;rintro _ _ _ ⟨i,s,⟨⟨hi,hs256⟩,hS⟩,rfl,rfl,rfl⟩;refine B2 rfl ?_;refine Z4 ?_;refine wD ?_ ?_<;>intro c22
 obtain⟨x,hx⟩:=A5 (l:=l) (k:=i) (by omega);have hxT:=hT x (List.mem_of_getElem? hx);have hxK:=hall x (List.mem_of_getElem? hx);have hgap:=c3r (l:=l) (i:=i) (by omega) x;have hsn:=b06 none hx;have hxl:=b1l hxT.1 hxT.2;have hyK:0<i->J7 (l.getD (i-1) zeroK)=true:=λh0=>hall _ (List.mem_of_getElem? (hq (i-1) (by omega)))
 have hqy0:0<i->l[i-1]?=some (l.getD (i-1) zeroK):=λh0=>hq (i-1) (by omega)
 generalize hy:l.getD (i-1) zeroK=y at hgap hyK hqy0;refine Z0 ?_;refine dS [] (.op 0 (.op 1 (.op 2 (.op 3 (.op 4 (.op 5 (.op 6 (.op 7 (.op 8 (.op 9 (.op 10 (.op 11 .nil)))))))))))) [12,13,14] C4 ?_;refine kA1 ?_;refine yG rfl (P0 Et Ek rfl) ?_;refine kA1 ?_;refine C0 rfl rfl (GU.t rfl rfl) (λhc=>PO.move Et) Lb ?_;refine C0 rfl rfl (GU.t rfl rfl) (λhc=>PO.move Et) Lb ?_;refine C0 rfl rfl (GU.t rfl rfl) (λhc=>Q4 (Eg hc) Ek (by first|omega|(simp at hc;omega))) Lb ?_;refine C0 rfl rfl (GU.t rfl rfl) (λhc=>D8 B3.und B3.size B3.posz (Eg hc) (Eg hc) Rr (q:=i-1) (by simp at hc;omega) (by simp at hc;omega)) Lb ?_;refine C0 rfl rfl (GU.t rfl rfl) (λhc=>a0Y M4 rfl rfl B8 Rr (Eg hc) (hqy0 (by simp at hc;omega)) rfl rfl (Nat.succ_pos _)) Lb ?_;refine C0 rfl rfl (GU.t rfl rfl) (λhc=>PO.move Et) Lb ?_;refine C0 rfl rfl (GU.t rfl rfl) (λhc=>PO.move Et) Lb ?_
 refine C0 rfl rfl (GU.t rfl rfl) (λhc=>D8 B3.und B3.size B3.posz (Eg hc) (Eg hc) Rr rfl (by omega)) Lb ?_;refine C0 rfl rfl (GU.t rfl rfl) (λhc=>a0Y M4 rfl rfl B8 Rr (Eg hc) hx rfl rfl (Nat.succ_pos _)) Lb ?_;refine SR.nil rfl rfl ?_;refine A4 (GU.t rfl rfl) (λhc=>⟨Ef,(E2 (Eg hc) (Eg hc)),c5b y x _ _⟩) Lb ?_;refine kP2 [0,5,6,39] ?_;refine F4 KKh [0,6] rfl (λF' h'=>∃u:B,(u=s++sep (a7L (a3y none (l.take i)) x)/\u.length<=257)/\F'=[(5,str u)]/\h=h') ?_ ?_;refine jE ?_;refine wc ?_ ?_<;>intro c39
 have d39:a7L (a3y none (l.take i)) x=true:=by
  simp only[Bool.and_eq_true]at c39;have h0:0<i:=by have:=of_decide_eq_true c39.1;omega
  rw[hgap,c39.1];have:=c39.2;rw[b8c (hyK h0) hxK]at this;simpa using this
 refine kA1 ?_;refine xG (R2 Et Ek (by simp;omega)) ?_;refine kA1 ?_;refine WL.nil (B4 [(5,str (s++[32]))] (h'':=h) ?_ Su Sb ⟨s++[32],⟨by rw[d39];rfl,by rw[List.length_append,List.length_singleton];omega⟩,rfl,rfl⟩);exact Su;have d39:a7L (a3y none (l.take i)) x=false:=by
  rw[hgap];cases h0:decide ((i:Int)>0)with
  |false=>rfl
  |true=>
   rw[h0]at c39;have hi0:0<i:=by have:=of_decide_eq_true h0;omega
   rw[b8c (hyK hi0) hxK]at c39;simpa using c39
 refine WC.skip (B4 [(5,str s)] (h'':=h) ?_ Su Sb ⟨s,⟨by rw[d39];exact(List.append_nil s).symm,by omega⟩,rfl,rfl⟩);exact Su;rintro _ _ ⟨u,⟨hu,hul⟩,rfl,rfl⟩;refine B2 rfl ?_;refine kA5 ?_;refine xf (E1 Et) (c7m x _ _ hxT.1 hxK) ?_;refine xG (R2 Et Et (by omega)) ?_;refine ZZ [1,1] ?_;refine xG (I8 uu9 Et) ?_;refine Z1 ?_;refine wc ?_ ?_<;>intro c51
 have hlong:256<(u++Y2 x).length:=by have:=of_decide_eq_true c51;omega
 have hO:=a9p hJ (i:=i+1) (by rw[hsn,<-hS,<-List.append_assoc,<-hu];exact hlong);refine Z2 ?_;refine w2 h ?_;exact⟨by rw[hO],rfl⟩;have hshort:(u++Y2 x).length<=256:=by have:=of_decide_eq_false c51;omega
 refine ZZ [0,3] ?_;refine WL.nil (A6 (l.length-(i+1)) [(5,str (u++Y2 x)),(6,.int .i64 (i+1))] (h'':=h) (by omega) ?_ Su Sb ⟨i+1,u++Y2 x,⟨⟨by omega,hshort⟩,by rw[hsn,<-hS,<-List.append_assoc,<-hu]⟩,rfl,rfl,rfl⟩);exact Su;rw[List.take_of_length_le (by omega)]at hS;have hO:=b5o hJ (by rw[<-hS];exact hs256);refine ZZ [0,3,0] ?_;refine w2 h ?_;exact⟨by rw[hO,hS],rfl⟩
end
end Go.Proofs.YtkgfanibfkdbfaaGreatDoor.L8
namespace Go.Proofs.YtkgfanibfkdbfaaGreatDoor.Ly7
open Go.Proofs.Tryz
section
open Go.Eng Go.Ly Go
theorem a7s(c d:UInt8):((c.toNat:Int)==(d.toNat:Int))=(c==d):=by
 rw[Bool.eq_iff_iff];simp only[beq_iff_eq];constructor
 ·intro h
  apply UInt8.toNat_inj.1;exact_mod_cast h
 ·rintro rfl
  rfl
theorem b3r(c:UInt8):((c.toNat:Int)==45)=(c==45):=a7s c 45
theorem b2E(c:UInt8):((c.toNat:Int)==32)=(c==32):=a7s c 32
theorem c6o(c:UInt8):(decide ((c.toNat:Int)<32)||decide ((c.toNat:Int)>126))=!okB c:=by
 unfold okB;by_cases h1:(c.toNat:Int)<32
 ·simp[h1]
 ·by_cases h2:(c.toNat:Int)>126
  ·simp[h2]
  ·simp[h1,h2]
   omega
theorem c0N{s:B}{k:Nat}{c:UInt8}(hc:s[k]?=some c)(hk:s.all okB=(s.drop k).all okB):s.all okB=(okB c&&(s.drop (k+1)).all okB):=by rw[hk,W5 hc];rfl
theorem a9s(s:B)(h:List Res)(m:View)(hs:s.length<=140737488355328):CT prog 101 [str s] h m (A7 h (.bool (s.all okB))):=by
 have hd:∀k,k<s.length->s[k]?=some (s.getD k 0):=λk hi=>by rw[List.getD_eq_getElem?_getD,List.getElem?_eq_getElem hi];rfl
 refine cB [0,2,3,7,19] func101 λ_=>?_;refine ZZ [1,1,0] ?_;refine B1 [0] rfl (λμ F' h'=>∃k:Nat,(k<=s.length/\s.all okB=(s.drop k).all okB)/\s.length-k=μ/\F'=[(3,.int .i64 k)]/\h=h') (s.length-0) [(3,.int .i64 0)] (h0:=h) ?_ Sb ⟨0,⟨by omega,rfl⟩,rfl,rfl,rfl⟩ ?_;exact Su;rintro _ _ _ ⟨k,⟨hk,hJ⟩,rfl,rfl,rfl⟩;refine B2 rfl ?_;refine kA2 ?_;refine xG (I8 uu9 Et) ?_;refine Z1 ?_;refine wD ?_ ?_<;>intro c7
 obtain⟨c,hc⟩:=A5 (l:=s) (k:=k) (by omega);have hJ:=c0N hc hJ;have hn:=c6o c;refine ZZ [0,2] ?_;refine xG (I9 uu9 Et Et rfl (by assumption)) ?_;refine kA4 ?_;refine zG (λhc=>I9 uu9 (Eg hc) (Eg hc) rfl (by assumption)) ?_;refine Z2 ?_;refine wc ?_ ?_<;>intro c19
 replace hn:=hn.symm.trans c19;refine Z1 ?_;refine wT h ?_;exact⟨by rw[hJ,show okB c=false by simpa using hn];rfl,rfl⟩;replace hn:=hn.symm.trans c19;refine ZZ [0,3] ?_;refine WL.nil (A6 (s.length-(k+1)) [(3,.int .i64 (k+1))] (h'':=h) (by omega) ?_ Su Sb ⟨k+1,⟨by omega,by rw[hJ,show okB c=true by simpa using hn];rfl⟩,rfl,rfl,rfl⟩);exact Su;refine ZZ [0,1,0] ?_;refine wT h ?_;exact⟨by rw[hJ,List.drop_eq_nil_of_le (by omega)];rfl,rfl⟩
theorem b8T{s:B}(h0:s≠[]):a8J s=b2v.contains (s.getD (s.length-1) 0):=by unfold a8J;rw[List.getLast?_eq_getElem?,List.getD_eq_getElem?_getD,List.getElem?_eq_getElem (by have:=List.length_pos_iff.2 h0;omega)];rfl
theorem c0C(s:B)(h:List Res)(m:View)(hs:s.length<=140737488355328):CT prog 100 [str s] h m (A7 h (.bool (a8J s))):=by
 have hd:∀k,k<s.length->s[k]?=some (s.getD k 0):=λk hi=>by rw[List.getD_eq_getElem?_getD,List.getElem?_eq_getElem hi];rfl
 refine cB [0,2,3,6,8,18] func100 λ_=>?_;refine ZZ [1,1] ?_;refine xG (I8 uu9 Et) ?_;refine Z1 ?_;refine wE ?_ ?_<;>intro c6
 refine Z1 ?_;refine wT h ?_;exact⟨by rw[List.eq_nil_of_length_eq_zero (l:=s) (by omega)];rfl,rfl⟩;have h0:s≠[]:=λe=>c6 (by rw[e];rfl)
 have hp:0<s.length:=List.length_pos_iff.2 h0;have hc:=b8T h0;refine ZZ [0,1,0] ?_;refine B1 [0] rfl (λμ F' h'=>∃k:Nat,(k<=14/\a8J s=(b2v.drop k).contains (s.getD (s.length-1) 0))/\14-k=μ/\F'=[(3,.int .i64 k)]/\h=h') (14-0) [(3,.int .i64 0)] (h0:=h) ?_ Sb ⟨0,⟨by omega,hc⟩,rfl,rfl,rfl⟩ ?_;exact Su;rintro _ _ _ ⟨k,⟨hk,hJ⟩,rfl,rfl,rfl⟩;refine B2 rfl ?_;refine Z2 ?_;refine wD ?_ ?_<;>intro c8
 obtain⟨c,hcc⟩:=A5 (l:=b2v) (k:=k) (by show k<14;omega);rw[W5 hcc,List.contains_cons]at hJ;refine Z0 ?_;refine dS [] (.op 0 (.op 1 (.op 2 (.op 3 (.op 4 (.op 5 (.op 6 .nil))))))) [7] C4 ?_;refine kA2 ?_;refine yG rfl (I8 uu9 Et) ?_;refine yG rfl (Q4 Et Ek (by omega)) ?_;refine yG rfl (I9 uu9 Et Et (q:=s.length-1) (by omega) (hd _ (by omega))) ?_;refine kA1 ?_;refine yG rfl (I9 uu9 Ek Et rfl hcc) ?_;refine SR.nil rfl rfl ?_;refine Z1 ?_;refine wc ?_ ?_<;>intro c18
 rw[a7s]at c18;refine Z1 ?_;refine wT h ?_;exact⟨by rw[hJ,c18];rfl,rfl⟩;rw[a7s]at c18;refine ZZ [0,3] ?_;refine WL.nil (A6 (14-(k+1)) [(3,.int .i64 (k+1))] (h'':=h) (by omega) ?_ Su Sb ⟨k+1,⟨by omega,by rw[hJ,c18];rfl⟩,rfl,rfl,rfl⟩);exact Su;have e:k=14:=by omega
 subst e;refine ZZ [0,1,0] ?_;refine wT h ?_;exact⟨by rw[hJ];rfl,rfl⟩
theorem c0H(s:B)(h:List Res)(m:View)(hs:s.length<=140737488355328):CT prog 47 [str s] h m (A7 h (.bool (validP s))):=by
 have hd:∀k,k<s.length->s[k]?=some (s.getD k 0):=λk hi=>by rw[List.getD_eq_getElem?_getD,List.getElem?_eq_getElem hi];rfl
 rw[<-c5C];refine cB [0,2,3,28,33,46] func47 λ_=>?_;refine ZZ [1,1] ?_;refine xG (I8 uu9 Et) ?_;refine kA3 ?_;refine zG (λhc=>I8 uu9 (Eg hc)) ?_;refine kA4 ?_;refine E8 (GU.f rfl rfl) (λhc=>I9 uu9 (Eg hc) Ek (q:=0) rfl (hd 0 (by simp at hc;omega))) Lb ?_;refine kA5 ?_;refine zG (λhc=>I8 uu9 (Eg hc)) ?_;refine E8 (GU.f rfl rfl) (λhc=>Q4 (Eg hc) Ek (by first|omega|(simp at hc;omega))) Lb ?_;refine E8 (GU.f rfl rfl) (λhc=>I9 uu9 (Eg hc) (Eg hc) (q:=s.length-1) (by simp at hc;omega) (hd (s.length-1) (by simp at hc;omega))) Lb ?_;refine kA4 ?_;refine A4 (GU.f rfl rfl) (λhc=>⟨Ef,(E1 (Eg hc)),c0C _ _ _ (by omega)⟩) Lb ?_;refine Z1 ?_;refine wc ?_ ?_<;>intro c28
 have hb:b0f s=true:=by unfold b0f;rw[<-b2E,<-b2E];exact c28
 refine Z1 ?_;refine wT h ?_;exact⟨by unfold b1w;rw[hb];rfl,rfl⟩;have hb:b0f s=false:=by unfold b0f;rw[<-b2E,<-b2E];exact c28
 refine ZZ [0,1,0] ?_;refine B1 [0] rfl (λμ F' h'=>∃k:Nat,(k<=s.length/\a9C s=a9C (s.drop k))/\s.length-k=μ/\F'=[(3,.int .i64 k)]/\h=h') (s.length-0) [(3,.int .i64 0)] (h0:=h) ?_ Sb ⟨0,⟨by omega,rfl⟩,rfl,rfl,rfl⟩ ?_;exact Su;rintro _ _ _ ⟨k,⟨hk,hJ⟩,rfl,rfl,rfl⟩;refine B2 rfl ?_;refine kA3 ?_;refine xG (I8 uu9 Et) ?_;refine Z1 ?_;refine wD ?_ ?_<;>intro c33
 obtain⟨c,hc⟩:=A5 (l:=s) (k:=k) (by omega);obtain⟨d,hdd⟩:=A5 (l:=s) (k:=k+1) (by omega);rw[c6m hc hdd]at hJ;refine ZZ [0,2] ?_;refine xG (I9 uu9 Et Et rfl (by assumption)) ?_;refine kA4 ?_;refine E8 (GU.t rfl rfl) (λhc=>L6 (Eg hc) Ek (by first|omega|(simp at hc;omega))) Lb ?_;refine zG (λhc=>I9 uu9 (Eg hc) (Eg hc) rfl hdd) ?_;refine Z2 ?_;refine wc ?_ ?_<;>intro c46
 have hcd:(c==45&&d==45)=true:=by rw[<-b3r,<-b3r];exact c46
 refine Z1 ?_;refine wT h ?_;exact⟨by unfold b1w;rw[hJ,hcd];simp,rfl⟩;have hcd:(c==45&&d==45)=false:=by rw[<-b3r,<-b3r];exact c46
 refine ZZ [0,3] ?_;refine WL.nil (A6 (s.length-(k+1)) [(3,.int .i64 (k+1))] (h'':=h) (by omega) ?_ Su Sb ⟨k+1,⟨by omega,by rw[hJ,hcd];rfl⟩,rfl,rfl,rfl⟩);exact Su;rw[c2G (by omega)]at hJ;refine ZZ [0,1] ?_;refine xf (E1 Et) (a9s _ _ _ (by omega)) ?_;refine Z1 ?_;refine wT h ?_;exact⟨by unfold b1w;rw[hb,hJ];rfl,rfl⟩
theorem mayR_ct(a:Option Addr)(n c:Nat)(l:List Rw)(h:List Res)(m:View)(hr:Rd m h a n c 3 (fl P4 l))(hs:∀x∈l,x.text.length<=140737488355328):CT prog 19 [.slice a n c] h m (A7 h (.bool (mayP l))):=by
 have hl:=hr.lenF F9 (by decide);have hmx:=hr.mx;have hle:=hr.le;subst hl;refine cB [0,2,3,4,5,6,9,13,80] func19 λ_=>?_;refine ZZ [1,3,0] ?_;refine wD ?_ ?_<;>intro c9
 refine Z1 ?_;refine wT h ?_;exact⟨by unfold mayP;rw[if_pos c9],rfl⟩;have hm:mayP l=b1c 0 (-1) 0 l:=by unfold mayP;rw[if_neg c9]
 refine ZZ [0,1,1,0] ?_;refine B1 [0] rfl (λμ F' h'=>∃k:Nat,∃no:Int,∃dp:Int,∃size:Int,((k<=l.length/\(-1<=dp/\dp<=32)/\(0<=no/\no<=65536)/\(0<=size/\size<=k*321)/\((k=0/\no=0/\dp=-1)\/∃y,0<k/\l[k-1]?=some y/\y.no=no/\y.depth=dp))/\mayP l=b1c no dp size (l.drop k))/\l.length-k=μ/\F'=[(3,.int .i64 size),(4,.int .i64 k)]/\h=h') (l.length-0) [(3,.int .i64 0),(4,.int .i64 0)] (h0:=h) ?_ Sb ⟨0,0,-1,0,⟨⟨by omega,by omega,by omega,by omega,.inl ⟨rfl,rfl,rfl⟩⟩,hm⟩,rfl,rfl,rfl⟩ ?_;exact Su;rintro _ _ _ ⟨k,no,dp,size,⟨⟨hk,hdp,hno,hsz,hpr⟩,hJ⟩,rfl,rfl,rfl⟩;refine B2 rfl ?_;refine Z4 ?_;refine wD ?_ ?_<;>intro c13
 obtain⟨x,hx⟩:=A5 (l:=l) (k:=k) (by omega);have hxs:=hs x (List.mem_of_getElem? hx);rw[b2w hx]at hJ;refine ZZ [0,1,1,0] ?_;refine kP2 [0,3,4,5,6,17] ?_;refine F4 KKh [0,3,4] rfl (λF' h'=>∃u:Int,∃w:Int,(u=no+1/\w=dp+1)/\F'=[(5,.int .i64 u),(6,.int .i64 w)]/\h=h') ?_ ?_;refine jE ?_;refine wD ?_ ?_<;>intro c17
 obtain⟨y,hy0,hy,hyn,hyd⟩:=hpr.resolve_left (λq=>by omega);refine kA2 ?_;refine xG (Q4 Et Ek (by omega)) ?_;refine WL.val (v':=.int .i64 ((k-1:Nat):Int)) (congrArg (Value.int .i64) (by omega)) ?_;refine ZZ [5,2] ?_;refine xG (Q4 Et Ek (by omega)) ?_;refine WL.val (v':=.int .i64 ((k-1:Nat):Int)) (congrArg (Value.int .i64) (by omega)) ?_;refine kA5 ?_;refine WL.nil (B4 [(5,.int .i64 (y.no+1)),(6,.int .i64 (y.depth+1))] (h'':=h) ?_ Su Sb ⟨y.no+1,y.depth+1,⟨by omega,by omega⟩,rfl,rfl⟩);exact Su;obtain⟨hk0,hn0,hd0⟩:k=0/\no=0/\dp=-1:=hpr.resolve_right (λ⟨y,q,_⟩=>by omega);refine WC.skip (B4 [(5,.int .i64 1),(6,.int .i64 0)] (h'':=h) ?_ Su Sb ⟨1,0,⟨by omega,by omega⟩,rfl,rfl⟩);exact Su;rintro _ _ ⟨u,w,⟨rfl,rfl⟩,rfl,rfl⟩;refine B2 rfl ?_;refine b7f ?_;refine E8 (GU.f rfl rfl) (λhc=>D8 a0J.und a0J.size a0J.posz (Eg hc) (Eg hc) Rr rfl (by omega)) Lb ?_
 refine zG (λhc=>G6 b2K rfl (Nat.ne_of_beq_eq_false rfl) F9 (Nat.succ_pos _) Rr (by assumption) (Eg hc)) ?_;refine zG (λhc=>G8 uu3 rfl F9 Rr (Eg hc) (by assumption) rfl) ?_;refine kA5 ?_;refine E8 (GU.f rfl rfl) (λhc=>D8 a0J.und a0J.size a0J.posz (Eg hc) (Eg hc) Rr rfl (by omega)) Lb ?_;refine zG (λhc=>G6 b2K rfl (Nat.ne_of_beq_eq_false rfl) F9 (Nat.succ_pos _) Rr (by assumption) (Eg hc)) ?_;refine zG (λhc=>G8 uu3 rfl F9 Rr (Eg hc) (by assumption) rfl) ?_;refine kA5 ?_;refine E8 (GU.f rfl rfl) (λhc=>D8 a0J.und a0J.size a0J.posz (Eg hc) (Eg hc) Rr rfl (by omega)) Lb ?_;refine zG (λhc=>G6 b2K rfl (Nat.ne_of_beq_eq_false rfl) F9 (Nat.succ_pos _) Rr (by assumption) (Eg hc)) ?_;refine zG (λhc=>G8 uu3 rfl F9 Rr (Eg hc) (by assumption) rfl) ?_;refine kA6 ?_;refine E8 (GU.f rfl rfl) (λhc=>D8 a0J.und a0J.size a0J.posz (Eg hc) (Eg hc) Rr rfl (by omega)) Lb ?_
 refine zG (λhc=>G6 b2K rfl (Nat.ne_of_beq_eq_false rfl) F9 (Nat.succ_pos _) Rr (by assumption) (Eg hc)) ?_;refine zG (λhc=>G8 uu3 rfl F9 Rr (Eg hc) (by assumption) rfl) ?_;refine kA5 ?_;refine E8 (GU.f rfl rfl) (λhc=>D8 a0J.und a0J.size a0J.posz (Eg hc) (Eg hc) Rr rfl (by omega)) Lb ?_;refine zG (λhc=>G6 b2K rfl (Nat.ne_of_beq_eq_false rfl) F9 (Nat.succ_pos _) Rr (by assumption) (Eg hc)) ?_;refine zG (λhc=>G8 uu9 rfl F9 Rr (Eg hc) (by assumption) rfl) ?_;refine A4 (GU.f rfl rfl) (λhc=>⟨Ef,(E1 (Eg hc)),c0H _ _ _ (by omega)⟩) Lb ?_;refine Z2 ?_;refine wc ?_ ?_<;>intro c80
 have hb:b1b no dp x=true:=by rw[<-b4g];exact c80
 rw[if_pos hb]at hJ;refine Z1 ?_;refine wT h ?_;exact⟨by rw[hJ],rfl⟩;have hb:b1b no dp x=false:=by rw[<-b4g];exact c80
 rw[hb]at hJ;obtain⟨h1,h2,h3,h4,h5,h6⟩:=b3x hb;have h7:=(validP_spec h6).2.1;refine Z0 ?_;refine dS [] (.op 0 (.op 1 (.op 2 (.op 3 (.op 4 (.op 5 (.op 6 (.op 7 (.op 8 (.op 9 (.op 10 (.op 11 (.op 12 (.op 13 .nil)))))))))))))) [14,15,16] C4 ?_;refine kA6 ?_;refine yG rfl (a8X Ek Et (by omega)) ?_;refine yG rfl (L6 Et Et (by omega)) ?_;refine kA5 ?_;refine yG rfl (I8 uu9 Et) ?_;refine SR.nil rfl rfl ?_;refine xG (L6 Et Et (by omega)) ?_;refine ZZ [2,3] ?_;refine WL.nil (A6 (l.length-(k+1)) [(3,.int .i64 (size+2*x.depth+x.text.length+1)),(4,.int .i64 (k+1))] (h'':=h) (by omega) ?_ Su Sb ⟨k+1,x.no,x.depth,size+2*x.depth+x.text.length+1,⟨⟨by omega,by omega,by omega,by omega,.inr ⟨x,by omega,hx,rfl,rfl⟩⟩,hJ⟩,rfl,rfl,rfl⟩);exact Su;rw[List.drop_eq_nil_of_le (by omega)]at hJ;refine ZZ [0,3,0] ?_;refine wT h ?_;exact⟨by rw[hJ];rfl,rfl⟩
end
end Go.Proofs.YtkgfanibfkdbfaaGreatDoor.Ly7
namespace Go.Proofs.YtkgfanibfkdbfaaGreatDoor
open Go.Proofs.Tryz
section
open Go.Eng Go.Pc Go
open Go.Xp hiding B C9
open Go.Ty (Ty Vr eqT tyV I7 PrOk VOk encV D2 M8 D3 eqI a2J a3c)
open Go.Lx (encB encB_len)
theorem b4a{α:Type}{l:List α}{i:Nat}{x:α}(h:l[i]?=some x):l.drop i=x::l.drop (i+1):=by obtain⟨hi,rfl⟩:=List.getElem?_eq_some_iff.1 h;exact List.drop_eq_getElem_cons hi
theorem c1j{l:List Pr}{x:Pr}(h:l[0]?=some x)(d q:Int):a4S l d q=G9 x d false q:=by
 cases l with
 |nil=>cases h
 |cons y r=>cases h;rfl
theorem b6y(p:Pr):∀(h:List Res)(m:View)(d left:Int)(pl:Bool),POk m h p->(0<=d/\d<=34)->(0<=left/\left<=2048) ->
 CT prog 38 [prV p,.int .i64 d,.int .i64 left,.bool pl] h m (A7 h (.int .i64 (L5 (G9 p d pl left)))):=by
 refine Pr.ind (q:=λp=>∀(h:List Res)(m:View)(d left:Int)(pl:Bool),POk m h p->(0<=d/\d<=34)->(0<=left/\left<=2048) ->
  CT prog 38 [prV p,.int .i64 d,.int .i64 left,.bool pl] h m (A7 h (.int .i64 (L5 (G9 p d pl left))))) (λp ih h m d left pl hP hd hl=>?_) p
 have v0:=View.le.refl m;have hO:=hP.own;have l1:=hO.l;have l2:=hO.g;have l3:=hO.sp.b;have m1:=l1.mx;have m2:=l2.mx;have m3:=l3.mx;have k1:=l1.le;have k2:=l2.le;have k3:=l3.le;refine cB [1,2,3,4,8,9,10,11,31,54,58,81,106] func38 λ_=>?_;refine xX λb4=>?_
 refine ZZ [1,7] ?_;refine zG (λ_=>pA S9) ?_;refine A4 (GU.f rfl rfl) (λhc=>⟨Ef,(E1 (Eg hc)),b9G p _ _ (hP.mono Sb)⟩) Lb ?_;refine kA9 ?_;refine zG (λhc=>Q2 hc rfl rfl) ?_;refine Z1 ?_;refine wc ?_ ?_<;>intro c31
 have d31:(((decide (d>32)||(left==0))||!(a0t p))||((p.k==11)&&!pl))=true:=c31;refine Z1 ?_;refine wT h ?_;exact⟨by rw[c0T d31],rfl⟩;have d31:(((decide (d>32)||(left==0))||!(a0t p))||((p.k==11)&&!pl))=false:=c31;simp only[Bool.or_eq_false_iff]at d31;obtain⟨⟨⟨da,db⟩,dc⟩,dd⟩:=d31;have da:d<=32:=by simpa using da
 have db:left≠0:=by simpa using db
 have dc:a0t p=true:=by simpa using dc
 have hst:=b8O da (by omega) hl.2 dc dd;have hgb:∀g∈p.gl,g.bl.length=1:=λg hg=>by
  rcases b2S dc with hp|⟨_,_,_,hgn⟩
  ·exact(a6T ((a0G hp).gs g hg).1).body
  ·rw[hgn]at hg;cases hg
 refine ZZ [0,1] ?_;refine xG (Q4 Et Ek (by omega)) ?_;refine ZZ [1,3,0] ?_;refine kP3 [1,2,3,4,9,38] ?_;refine F4 KKh [1,3,4] rfl (λF' h'=>∃b0:Int,∃q:Int,((b0=(if p.k=18 then d else d+1)/\q=(if p.k=18 then L5 (W9 p.sp d (left-1))else left-1))/\(-1<=q/\q<=2048))/\F'=[(2,.int .i64 q),(9,.int .i64 b0)]/\.pt b4 (.cells (prE p).toArray 45 (0,0))::h=h') ?_ ?_;refine jE ?_;refine wE ?_ ?_<;>intro c38
 have hpl:L2 p=true:=by
  rcases b2S dc with hp|⟨_,_,hk,_⟩
  ·exact hp
  ·omega
 have hsp:spP p.sp=true:=(a0G hpl).sp (by rw[c38];rfl);have hS:=a5U p.sp d (left-1);refine ZZ [2,12] ?_;refine E8 (GU.t rfl rfl) (λhc=>L6 (Eg hc) Ek (by first|omega|(simp at hc;omega))) Lb ?_;refine Z2 ?_;refine wc ?_ ?_<;>intro c54
 have d54:(((p.sp.k==4)&&p.sp.cs)&&decide (d+2>32))=true:=c54;simp only[Bool.and_eq_true]at d54;have hS1:W9 p.sp d (left-1)=(false,left-1):=by rw[hS,if_pos (by rw[d54.1.2,d54.2];rfl)]
 refine Z1 ?_;refine wT h ?_;exact⟨by rw[hst,if_pos c38,hS1,if_pos c38];rfl,rfl⟩;have d54:(((p.sp.k==4)&&p.sp.cs)&&decide (d+2>32))=false:=c54;have hS2:W9 p.sp d (left-1)=a4S p.sp.bl (d+1) (left-1):=by
  rw[hS];by_cases h4:p.sp.k=4
  ·rw[h4]at d54
   rw[if_neg (by simpa using d54)]
  ·rw[if_neg (by rw[c90 hsp h4];simp)]
 refine ZZ [0,4,0] ?_;refine wE ?_ ?_<;>intro c58
 obtain⟨x,hx⟩:=A5 (l:=p.sp.bl) (k:=0) (by have:=(a7g hsp).body c58;omega);have hxi:In x p:=In.s (List.mem_of_getElem? hx);have hx1:0<p.sp.bl.length:=(List.getElem?_eq_some_iff.1 hx).1;rw[c1j hx]at hS2;have hrg:=a7w (p:=x) (d:=d+1) (pl:=false) (left:=left-1) (by omega);refine kA3 ?_;refine xG (D8 T9.und T9.size T9.posz (Ev.tmp rfl) Ek Rr rfl (q:=0) (by omega)) ?_;refine kA4 ?_;refine xf (E4 Et Et Et Ek) (ih x hxi _ m (d+1) (left-1) false ((hP.sub hxi).mono Sb) ⟨by omega,by omega⟩ ⟨by omega,by omega⟩) ?_;refine kA1 ?_;refine WL.nil (B4 [(2,.int .i64 (L5 (G9 x (d+1) false (left-1)))),(9,.int .i64 d)] (h'':=.pt b4 (.cells (prE p).toArray 45 (0,0))::h) ?_ Su Sb ⟨d,L5 (G9 x (d+1) false (left-1)),⟨⟨by rw[if_pos c38],by rw[if_pos c38,hS2]⟩,by omega,by omega⟩,rfl,rfl⟩);exact Su;have hS3:W9 p.sp d (left-1)=(true,left-1):=by rw[hS2,c9U hsp c58];rfl
 refine WC.skip (B4 [(2,.int .i64 (left-1)),(9,.int .i64 d)] (h'':=.pt b4 (.cells (prE p).toArray 45 (0,0))::h) ?_ Su Sb ⟨d,left-1,⟨⟨by rw[if_pos c38],by rw[if_pos c38,hS3];rfl⟩,by omega,by omega⟩,rfl,rfl⟩);exact Su;refine WC.skip (B4 [(2,.int .i64 (left-1)),(9,.int .i64 (d+1))] (h'':=.pt b4 (.cells (prE p).toArray 45 (0,0))::h) ?_ Su Sb ⟨d+1,left-1,⟨⟨by rw[if_neg c38],by rw[if_neg c38]⟩,by omega,by omega⟩,rfl,rfl⟩);exact Su;rintro _ _ ⟨b0,q,hbq,rfl,rfl⟩;refine B2 rfl ?_;refine kP3 [1,2,3,4,9,70] ?_;refine F4 KKh [1,2,3,4] rfl (λF' h'=>∃bl:Int,(bl=(if p.k=18 then d else if p.k=11 then d+2 else d+1))/\F'=[(9,.int .i64 bl)]/\.pt b4 (.cells (prE p).toArray 45 (0,0))::h=h') ?_ ?_;refine jE ?_;refine wE ?_ ?_<;>intro c70
 have n18:p.k≠18:=by omega
 refine kA3 ?_;refine WL.nil (B4 [(9,.int .i64 (d+2))] (h'':=.pt b4 (.cells (prE p).toArray 45 (0,0))::h) ?_ Su Sb ⟨d+2,(by rw[if_neg n18,if_pos c70]),rfl,rfl⟩);exact Su;refine WC.skip (B4 [(9,.int .i64 b0)] (h'':=.pt b4 (.cells (prE p).toArray 45 (0,0))::h) ?_ Su Sb ⟨b0,(by rw[hbq.1.1,if_neg c70]),rfl,rfl⟩);exact Su;rintro _ _ ⟨bl,hbl,rfl,rfl⟩;refine B2 rfl ?_;refine j0 ?_;rw[<-hbl,<-hbq.1.2]at hst;have hbr:0<=bl/\bl<=34:=by
  have:=hbl;split at this
  ·omega
  ·split at this<;>omega
 have hq0:=hbq.2;refine Z1 ?_;refine B1 [1,3,4,9] rfl (λμ F' h'=>∃i:Nat,∃w:Int,((i<=p.ll.length/\(-1<=w/\w<=2048))/\L5 (G9 p d pl left)=a4g p.gl (d+2) (a3s (p.ll.drop i) bl (pl&&(p.k==18)) w))/\p.ll.length-i=μ/\F'=[(2,.int .i64 w),(10,.int .i64 i)]/\.pt b4 (.cells (prE p).toArray 45 (0,0))::h=h') (p.ll.length-0) [(2,.int .i64 q),(10,.int .i64 0)] (h0:=.pt b4 (.cells (prE p).toArray 45 (0,0))::h) ?_ Sb ⟨0,q,⟨⟨by omega,hq0⟩,hst⟩,rfl,rfl,rfl⟩ ?_;exact Su;rintro _ _ _ ⟨i,w,⟨⟨hi,hw⟩,hJ⟩,rfl,rfl,rfl⟩;refine B2 rfl ?_;refine Z9 ?_;refine wc ?_ ?_<;>intro c81
 have d81:i<p.ll.length/\0<=w:=by simp at c81;omega
 obtain⟨x,hx⟩:=A5 (l:=p.ll) (k:=i) (by omega);have hxi:In x p:=In.l (List.mem_of_getElem? hx);rw[b4a hx,b6G d81.2]at hJ;have hrg:=a7w (p:=x) (d:=bl) (pl:=pl&&(p.k==18)) (left:=w) d81.2;refine Z0 ?_;refine dS [] (.op 0 (.op 1 (.op 2 (.op 3 (.op 4 (.op 5 (.op 6 (.op 7 (.op 8 (.op 9 (.op 10 (.op 11 (.op 12 .nil))))))))))))) [13,14] C4 ?_;refine d08 ?_;refine C0 rfl rfl (GU.t rfl rfl) (λhc=>P0 (Eg hc) Ek rfl) Lb ?_;refine kA1 ?_;refine SR.nil rfl rfl ?_;refine xf (E4 Et Et Et Et) (ih x hxi _ m bl w (pl&&(p.k==18)) ((hP.sub hxi).mono Sb) hbr ⟨d81.2,hw.2⟩) ?_;refine ZZ [1,3] ?_;refine WL.nil (A6 (p.ll.length-(i+1)) [(2,.int .i64 (L5 (G9 x bl (pl&&(p.k==18)) w))),(10,.int .i64 (i+1))] (h'':=.pt b4 (.cells (prE p).toArray 45 (0,0))::h) (by omega) ?_ Su Sb ⟨i+1,L5 (G9 x bl (pl&&(p.k==18)) w),⟨⟨by omega,by omega,by omega⟩,hJ⟩,rfl,rfl,rfl⟩);exact Su
 have hJ2:L5 (G9 p d pl left)=a4g (p.gl.drop 0) (d+2) w:=by
  rw[hJ,List.drop_zero];by_cases hw0:0<=w
  ·have hi2:¬i<p.ll.length:=λq=>by
    have q1:(i:Int)<(p.ll.length:Int):=by omega
    simp[q1,hw0]at c81
   rw[List.drop_eq_nil_of_le (by omega),c0o hw0]
  ·rw[c02 (by omega),a8g (by omega),a8g (by omega)]
 refine ZZ [0,1,0] ?_;refine B1 [1,4] rfl (λμ F' h'=>∃i:Nat,∃w:Int,((i<=p.gl.length/\(-1<=w/\w<=2048))/\L5 (G9 p d pl left)=a4g (p.gl.drop i) (d+2) w)/\p.gl.length-i=μ/\F'=[(2,.int .i64 w),(11,.int .i64 i)]/\.pt b4 (.cells (prE p).toArray 45 (0,0))::h=h') (p.gl.length-0) [(2,.int .i64 w),(11,.int .i64 0)] (h0:=.pt b4 (.cells (prE p).toArray 45 (0,0))::h) ?_ Sb ⟨0,w,⟨⟨by omega,hw⟩,hJ2⟩,rfl,rfl,rfl⟩ ?_;exact Su;rintro _ _ _ ⟨i,w,⟨⟨hi,hw⟩,hJ⟩,rfl,rfl,rfl⟩;refine B2 rfl ?_;refine Z9 ?_;refine wc ?_ ?_<;>intro c106
 have d106:i<p.gl.length/\0<=w:=by simp at c106;omega
 obtain⟨g,hgx⟩:=A5 (l:=p.gl) (k:=i) (by omega);have hgm:=List.mem_of_getElem? hgx;obtain⟨x,hx⟩:=A5 (l:=g.bl) (k:=0) (by have:=hgb g hgm;omega);have hxi:In x p:=In.g hgm (List.mem_of_getElem? hx);have hx1:0<g.bl.length:=(List.getElem?_eq_some_iff.1 hx).1;have hgo:=(hO.gs g hgm).b;rw[b4a hgx,b6S d106.2 hx]at hJ;have hrg:=a7w (p:=x) (d:=d+2) (pl:=false) (left:=w) d106.2;refine ZZ [0,6] ?_;refine xG (D8 T9.und T9.size T9.posz (Ev.tmp rfl) Ek Rr rfl (q:=0) (by omega)) ?_;refine kA4 ?_;refine xf (E4 Et Et Et Ek) (ih x hxi _ m (d+2) w false ((hP.sub hxi).mono Sb) ⟨by omega,by omega⟩ ⟨d106.2,hw.2⟩) ?_;refine ZZ [1,3] ?_;refine WL.nil (A6 (p.gl.length-(i+1)) [(2,.int .i64 (L5 (G9 x (d+2) false w))),(11,.int .i64 (i+1))] (h'':=.pt b4 (.cells (prE p).toArray 45 (0,0))::h) (by omega) ?_ Su Sb ⟨i+1,L5 (G9 x (d+2) false w),⟨⟨by omega,by omega,by omega⟩,hJ⟩,rfl,rfl,rfl⟩);exact Su
 have hJ2:L5 (G9 p d pl left)=w:=by
  rw[hJ];by_cases hw0:0<=w
  ·have hi2:¬i<p.gl.length:=λq=>by
    have q1:(i:Int)<(p.gl.length:Int):=by omega
    simp[q1,hw0]at c106
   rw[List.drop_eq_nil_of_le (by omega),b8N hw0]
  ·rw[a8g (by omega)]
   omega
 refine ZZ [0,2,0] ?_;refine wT h ?_;exact⟨by rw[hJ2],rfl⟩
theorem b9C{m:View}{h:List Res}(p:Pr)(hP:POk m h p):CT prog 16 [prV p] h m (A7 h (.bool (mayP p))):=by
 have hq:decide (L5 (G9 p 0 true 2048)>=0)=mayP p:=by
  unfold mayP;have hr:=a7w (p:=p) (d:=0) (pl:=true) (left:=2048) (by omega);cases hc:(G9 p 0 true 2048).1 with
  |true=>
   have:=a8P (p:=p) (d:=0) (pl:=true) (left:=2048) (by omega) hc;have hv:L5 (G9 p 0 true 2048)=(G9 p 0 true 2048).2:=by unfold L5;rw[if_pos hc]
   rw[hv];simpa using this.1
  |false=>
   have hv:L5 (G9 p 0 true 2048)=-1:=by unfold L5;rw[if_neg (by rw[hc];decide)]
   rw[hv];rfl
 refine cB [1,2] func16 λ_=>?_;refine xX λb1=>?_
 refine ZZ [1,1] ?_;refine xf (E4 Et Ek Ek Ek) (b6y p _ _ 0 2048 true (hP.mono Sb) ⟨by omega,by omega⟩ ⟨by omega,by omega⟩) ?_;refine Z2 ?_;refine wT h ?_;exact⟨by rw[<-hq],rfl⟩
end
section
open Go.Eng Go.Pc Go.Sx Go
open Go.Xp hiding B C9
open Go.Ty (Ty Vr Tok eqT tyV I7 A3 B8 O4 zeroK M8 D3 encV D2)
open Go.Lx (encB encB_len textO)
open Go.Ly (Rw P4 F9)
theorem a8w:∀(l:List Ln){a:List Rw},(∀y∈a,y.text.length<=256)->∀y∈a3M a l,y.text.length<=256
 | [],_,h=>h
 |x::l,a,h=>a8w l (a:=b2Q a x) λy hy=>by
  rcases List.mem_append.1 hy with q|q
  ·exact h y q
  ·rw[List.mem_singleton]at q
   subst q;exact b4R _
theorem b0y{k:Int}:∀{ns:List Int}{l:List Pr}{d:Int},(∀y∈l,∀d,∀x∈D6 y d,TkL x.2)->∀x∈F1 k ns l d,TkL x.2
 |ns,[],d,_,x,hx=>by rw[show F1 k ns [] d=[] by cases ns<;>rfl]at hx;cases hx
 |ns,y::l,d,h,x,hx=>by
  have ih:=b0y (k:=k) (ns:=ns.tail) (l:=l) (d:=d) λz hz=>h z (List.Mem.tail _ hz)
  have hx:x∈(if k=11 then(d+1,[A0 [80,82,79,67,69,83,83,79,82],⟨3,0,[],IntKind.i32.wrap (ns.headD 0)⟩])::D6 y (d+2)else D6 y (d+1))++F1 k ns.tail l d:=hx;rcases List.mem_append.1 hx with q|q
  ·split at q
   ·rcases List.mem_cons.1 q with rfl|q
    ·exact c0w _
    ·exact h y (List.Mem.head _) _ x q
   ·exact h y (List.Mem.head _) _ x q
  ·exact ih x q
theorem a8x{m:View}{h:List Res}:∀{l:List Gu}{d:Int},(∀g∈l,GOk m h g)->(∀g∈l,∀y∈g.bl,∀d,∀x∈D6 y d,TkL x.2)->∀x∈H8 l d,TkL x.2
 | [],_,_,_,x,hx=>by cases hx
 |g::l,d,hg,h,x,hx=>by
  rcases List.mem_append.1 (show x∈U8 g d++H8 l d from hx)with q|q
  ·rw[a7y]at q
   rcases List.mem_cons.1 q with rfl|q
   ·exact b1m (hg g (List.Mem.head _))
   ·obtain⟨y,hy,q⟩:=a6t q
    exact h g (List.Mem.head _) y hy _ x q
  ·exact a8x (λz hz=>hg z (List.Mem.tail _ hz)) (λz hz=>h z (List.Mem.tail _ hz)) x q
theorem b6r{m:View}{h:List Res}{s:Sp}{d:Int}(hO:SOk m h s)(hu:spP s=true)(hS:∀y∈s.bl,∀d,∀x∈D6 y d,TkL x.2):∀x∈J3 s d,TkL x.2:=by
 obtain⟨hk,hnl,h5,h4⟩:=b0w hu;have w:∀{s:B},s.length<=1000->TkL [A0 s]:=λh=>Y4 (Nat.le_trans h (by decide))
 intro x hx;rw[a8a]at hx;split at hx
 ·rw[List.mem_singleton]at hx
  subst hx;exact F7 (F7 a5u (a2h hO.nw)) (w (by decide))
 split at hx
 ·rw[List.mem_singleton]at hx
  subst hx;exact F7 (F7 (F7 (F7 (F7 (w (by decide)) a5u) (a2h hO.nw)) (w (by decide))) (a2j hO.e)) (w (by decide))
 split at hx
 ·rw[List.mem_singleton]at hx
  subst hx;exact F7 (F7 (F7 (F7 a5u (a2h hO.nw)) (w (by decide))) (a2j hO.e)) (w (by decide))
 split at hx
 ·rcases List.mem_cons.1 hx with rfl|hx
  ·exact F7 (F7 (F7 (F7 (w (by decide)) (a2h hO.nw)) (w (by decide))) (b2o (by decide) λf hf=>c0G (hO.fw f hf))) (w (by decide))
  ·rcases List.mem_append.1 hx with q|q
   ·obtain⟨y,hy,q⟩:=a6t q
    exact hS y hy _ x q
   ·rw[List.mem_singleton]at q
    subst q;exact w (by decide)
 split at hx
 ·rw[List.mem_singleton]at hx
  subst hx;exact F7 (F7 (F7 (F7 (w (by decide)) (a2h hO.nw)) (w (by decide))) b2H) (w (by decide))
 ·have hm:=h4 (by omega)
  rcases List.mem_cons.1 hx with rfl|hx
  ·exact F7 (w (by decide)) (a2h hO.nw)
  ·rcases List.mem_cons.1 hx with rfl|hx
   ·exact w (by decide)
   ·rcases List.mem_append.1 hx with q|q
    ·obtain⟨v,hv,rfl⟩:=List.mem_map.1 q
     exact F7 (b09 (b1s hm v hv)) (c1x (by decide) b2H)
    ·rw[List.mem_singleton]at q
     subst q;exact w (by decide)
theorem b6p{m:View}{h:List Res}(p:Pr):POk m h p->Vld p->∀d,∀x∈D6 p d,TkL x.2:=by
 refine Pr.ind (q:=λp=>POk m h p->Vld p->∀d,∀x∈D6 p d,TkL x.2) (λp ih hP hv d x hx=>?_) p;have hV:=hv.own;have hO:=hP.own;rw[a7O]at hx;split at hx
 ·rename_i hk
  rcases List.mem_append.1 hx with q|q
  ·exact b6r hO.sp (hV.sp (by rw[hk];rfl)) (λy hy=>ih y (.s hy) (hP.sub (.s hy)) (hv.sub (.s hy))) x q
  ·obtain⟨y,hy,q⟩:=a6t q
   exact ih y (.l hy) (hP.sub (.l hy)) (hv.sub (.l hy)) _ x q
 ·rcases List.mem_cons.1 hx with rfl|hx
  ·exact b2p hO
  ·rcases List.mem_append.1 hx with q|q
   ·exact b0y (λy hy=>ih y (.l hy) (hP.sub (.l hy)) (hv.sub (.l hy))) x q
   ·exact a8x hO.gs (λg hg y hy=>ih y (.g hg hy) (hP.sub (.g hg hy)) (hv.sub (.g hg hy))) x q
theorem c3R{α:Type}{p:α->Bool}{l:List α}{x:α}{j:Nat}(h:l[j]?=some x):(l.take (j+1)).any p=((l.take j).any p||p x):=by rw[U5 h,List.any_append,List.any_cons,List.any_nil,Bool.or_false]
theorem c6p{α:Type}{p:α->Bool}{l:List α}{x:α}{j:Nat}(h:l[j]?=some x)(hp:p x=true):l.any p=true:=List.any_eq_true.2 ⟨x,List.mem_of_getElem? h,hp⟩
theorem b7c{m:View}(p:Pr)(h:List Res)(hO:POk m h p):CT prog 6 [prV p] h m (λv _ h'=>c8W m p h v h'):=by
 have hq:=b7b p;unfold b7p at hq;refine cB [1,2,3,4,5,6,7,8,11,17,30,45] func6 λ_=>?_;refine xX λb1=>?_
 refine ZZ [2,1] ?_;refine xf (E1 Et) (b9C p (hO.mono Sb)) ?_;refine Z1 ?_;refine wc ?_ ?_<;>intro c11
 have d11:mayP p=false:=by simpa using c11
 rw[if_neg (J8 d11)]at hq;refine Z2 ?_;refine w2 h ?_;exact⟨none,0,[],by rw[hq];rfl,by rw[hq];exact Rd.nilF P4 3 _ _,rfl,by rw[hq];intro e;cases e⟩;have d11:mayP p=true:=by simpa using c11
 rw[if_pos d11]at hq;obtain⟨hv,hc⟩:=b4C d11;have htk:=b6p p hO hv 0;have hll:=a6E hv 0;obtain⟨LS,hLS⟩:∃L,L=D6 p 0:=⟨_,rfl⟩;have hsh:=a8w (D6 p 0) (a:=[]) nofun;refine Z0 ?_;refine WL.addNil 52 3 ?_;refine ZZ [1,1] ?_;refine xg (E2 Et Ek) (b7t p 0 _ (hO.mono Sb) hv ⟨by omega,by omega⟩) ?_;rintro _ _ ⟨a13,c13,bl13,ss13,rfl,hR13,hJ13,rfl⟩;refine WL.perm ((Mv.perm).cons _) ?_;rw[<-hLS]at hq htk hll hJ13 hsh;have hsl:=congrArg List.length hJ13;rw[List.length_map]at hsl;refine kR a13 λp13 q13 r13=>?_
 refine ZZ [1,1,0] ?_;refine B1 [5] rfl (λμ F' h'=>∃a9:Option Addr,∃c9:Nat,∃r:List Rw,∃j:Nat,((j<=ss13.length/\r.length=j)/\r=a3M [] (LS.take j)/\(LS.take j).any a8I=false)/\ss13.length-j=μ/\F'=[(4,.slice a9 r.length c9),(6,.int .i64 j)]/\.row (.slice a13 ss13.length c13) 70 2 ss13.length (fl lnE ss13)::.row (.slice a9 r.length c9) 52 3 r.length (fl P4 r)::.pt b1 (.cells (prE p).toArray 45 (0,0))::(bl13++h)=h') (ss13.length-0) [(4,.slice none ([]).length 0),(6,.int .i64 0)] (h0:=.row (.slice a13 ss13.length c13) 70 2 ss13.length (fl lnE ss13)::.row (.slice none ([]).length 0) 52 3 ([]).length (fl P4 ([]))::.pt b1 (.cells (prE p).toArray 45 (0,0))::(bl13++h)) ?_ Sb ⟨none,0,[],0,⟨⟨Nat.zero_le _,rfl⟩,rfl,rfl⟩,rfl,rfl,rfl⟩ ?_;exact Su;rintro _ _ _ ⟨a9,c9,r,j,⟨⟨hj,hr⟩,hJ,hb⟩,rfl,rfl,rfl⟩;refine B2 rfl ?_;refine Q7 (a:=a9) Me λp9 q9 r9=>?_;refine Z4 ?_;refine wD ?_ ?_<;>intro c17
 obtain⟨s,hx⟩:=A5 (l:=ss13) (k:=j) (by omega);have hxL:LS[j]?=some (unL s):=by rw[<-hJ13,List.getElem?_map,hx];rfl
 have htj:=htk _ (List.mem_of_getElem? hxL);have hsr:=hR13 s (List.mem_of_getElem? hx);have hbj:=c3R (p:=a8I) hxL;have htj2:=U5 hxL;have hby:a8I (unL s)=((textO s.2.l).2 !=0):=rfl;refine ZZ [0,5] ?_;refine xf (E1 Et) (L8.rTextL_ct s.2.a _ s.2.c s.2.l _ _ (hsr.mono Vl Sb) htj) ?_;refine ZZ [5,2,0] ?_;refine wN ?_ ?_<;>intro c30
 have hbt:LS.any a8I=true:=c6p hxL (by rw[hby];simpa using c30);rw[hbt]at hq;refine Z2 ?_;refine w2 h ?_;exact⟨none,0,[],by rw[hq];rfl,by rw[hq];exact Rd.nilF P4 3 _ _,rfl,by rw[hq];intro e;cases e⟩;have hbf:a8I (unL s)=false:=by rw[hby];simpa using c30
 refine ZZ [0,3] ?_;refine WL.val (v':=.int .i64 ((r.length:Int)+1)) (congrArg (Value.int .i64) (by omega)) ?_;refine kA7 ?_;refine xY a0J Eb λb41=>?_;have hln:(r++[(⟨(r.length:Int)+1,s.1,(textO s.2.l).1⟩:Rw)]).length=r.length+1:=List.length_append;refine xD a0J (Ev.tmp rfl) (Ev.tmp rfl) (show r.length+1=(r++[(⟨(r.length:Int)+1,s.1,(textO s.2.l).1⟩:Rw)]).length from hln.symm) (D4 (enc:=P4) _ (⟨(r.length:Int)+1,s.1,(textO s.2.l).1⟩)) λa42 c42=>?_
 refine ZZ [1,3] ?_;refine WL.nil (A6 (ss13.length-(j+1)) [(4,.slice a42 (r++[(⟨(r.length:Int)+1,s.1,(textO s.2.l).1⟩:Rw)]).length c42),(6,.int .i64 (j+1))] (h'':=.row (.slice a13 ss13.length c13) 70 2 ss13.length (fl lnE ss13)::.row (.slice a42 (r++[(⟨(r.length:Int)+1,s.1,(textO s.2.l).1⟩:Rw)]).length c42) 52 3 (r++[(⟨(r.length:Int)+1,s.1,(textO s.2.l).1⟩:Rw)]).length (fl P4 (r++[(⟨(r.length:Int)+1,s.1,(textO s.2.l).1⟩:Rw)]))::.pt b1 (.cells (prE p).toArray 45 (0,0))::(bl13++h)) (by omega) ?_ Su Sb ⟨a42,c42,r++[(⟨(r.length:Int)+1,s.1,(textO s.2.l).1⟩:Rw)],j+1,⟨⟨by omega,by omega⟩,by rw[htj2,b6X,<-hJ];rfl,by rw[hbj,hb,hbf];rfl⟩,rfl,rfl,rfl⟩);exact Su;rw[List.take_of_length_le (by omega)]at hJ hb;rw[hb,if_neg (by decide)]at hq;rw[<-hJ]at hsh hq;refine ZZ [0,1] ?_;refine xf (E1 Et) (Ly7.mayR_ct a9 _ c9 r _ _ (iR r9 p9 q9) (λx hx=>by have:=hsh x hx;omega)) ?_;refine Z1 ?_
 refine wc ?_ ?_<;>intro c45
 have d45:Go.Ly.mayP r=false:=by simpa using c45
 rw[if_neg (J8 d45)]at hq;refine Z2 ?_;refine w2 h ?_;exact⟨none,0,[],by rw[hq];rfl,by rw[hq];exact Rd.nilF P4 3 _ _,rfl,by rw[hq];intro e;cases e⟩;have d45:Go.Ly.mayP r=true:=by simpa using c45
 rw[if_pos d45]at hq;refine ZZ [0,3,0] ?_;refine w2 (.row (.slice a9 r.length c9) 52 3 r.length (fl P4 r)::h) ?_;exact⟨a9,c9,[.row (.slice a9 r.length c9) 52 3 r.length (fl P4 r)],by rw[hq],by rw[hq];exact Rd.ofRow r9 p9 q9 (List.mem_singleton.2 rfl),rfl,λ_=>by rw[hq]⟩
end
section
open Go.Eng Go.Pc Go
open Go.Xp hiding B C9
open Go.Ty (Ty Vr eqT tyV I7 PrOk VOk encV D2 M8 D3 eqI a2J a3c)
open Go.Lx (encB encB_len)
theorem a0v{α:Type}{q:α->α->Bool}:∀l r:List α,(∀x∈l,∀y,q x y=q y x)->eqL q l r=eqL q r l
 | [],[],_=>rfl
 | [],_::_,_=>rfl
 |_::_,[],_=>rfl
 |a::r,b::s,h=>by show(q a b&&eqL q r s)=(q b a&&eqL q s r);rw[h a (List.mem_cons_self ..) b,a0v r s (λx hx=>h x (List.mem_cons_of_mem _ hx))]
theorem a07(a b:Ex):E5 a b=E5 b a:=by rw[Bool.eq_iff_iff,a0K,a0K];exact eq_comm
theorem R5{α:Type}[BEq α][LawfulBEq α](a b:α):(a==b)=(b==a):=by rw[Bool.eq_iff_iff,beq_iff_eq,beq_iff_eq];exact eq_comm
theorem b5z(a b:Ty):eqT a b=eqT b a:=by rw[Bool.eq_iff_iff,Go.Ty.eqT_iff,Go.Ty.eqT_iff];exact eq_comm
theorem b9U(a b:Fo):a0s a b=a0s b a:=by unfold a0s;rw[R5 a.val,b5z a.ty,R5 a.name]
theorem b5Z(a b:Vr):P2 a b=P2 b a:=by unfold P2;rw[R5 a.tag,R5 a.items]
theorem a3u(l r:List Ex):eqL E5 l r=eqL E5 r l:=a0v l r λx _ y=>a07 x y
theorem a9G(p:Pr):∀q,H6 p q=H6 q p:=by
 refine Pr.ind (q:=λp=>∀q,H6 p q=H6 q p) (λp ih q=>?_) p;have hs:Y7 p.sp q.sp=Y7 q.sp p.sp:=by rw[a4T,a4T,R5 p.sp.k,b5z p.sp.ty,a0v p.sp.fs.l _ λx _ y=>b9U x y,a0v p.sp.names.l _ λx _ y=>R5 x y,a07 p.sp.e,a0v p.sp.bl _ λx hx y=>ih x (.s hx) y];unfold a2e;rw[R5 p.sp.cs,a0v p.sp.vs.l _ λx _ y=>b5Z x y]
 have hg:eqL S5 p.gl q.gl=eqL S5 q.gl p.gl:=a0v p.gl _ λx hx y=>by
  rw[a7f,a7f,R5 x.k,R5 x.name,a07 x.cond,a07 x.ch,a07 x.time,a3u x.tg.l,a3u x.vl.l,a0v x.bl _ λz hz w=>ih z (.g hx hz) w]
 rw[a7i p q,a7i q p,hs,hg,a0v p.pn.l _ λx _ y=>R5 x y,R5 p.k,R5 p.name,a07 p.ch,a3u p.tg.l,a3u p.ex.l,a0v p.ll _ λx hx y=>ih x (.l hx) y];unfold a4M;rw[R5 p.rep.name,a07 p.rep.base,a07 p.rep.count]
end
section
open Go.Eng Go.Pc Go.Sx Go
open Go.Xp hiding B C9
open Go.Ly (Rw P4 F9)
def Law:Value->View->List Res->Prop:=λv _ _=>v=.bool true
theorem c1H(p q:Pr):H6 p (stP q)=H6 p q:=by rw[a9G,b83,a9G]
end
section
open Go.Eng Go.Pc Go.Sx Go
open Go.Xp hiding B C9
open Go.Ly (Rw P4 F9 eqR)
theorem b4P:∀l:List Rw,eqL eqR l l=true
 | []=>rfl
 |x::l=>by
  show(eqR x x&&eqL eqR l l)=true;rw[b4P l,Bool.and_true];unfold eqR;simp
theorem b6Y{m:View}(hg:Glob m)(hp:Pow m)(p:Pr)(h:List Res)(hP:POk m h p):CT prog 3 [prV p] h m Law:=by
 refine cB [1,2,3,4,5,6] func3 λ_=>?_;refine xX λb1=>?_
 refine Z1 ?_;refine xG (W6 S9 rfl rfl Et (by(repeat (first|exact c0F _|apply c2T|apply List.mem_append_right))) rfl) ?_;refine xg (E1 Et) (b5i hg hp p _ (hP.mono Sb)) ?_;rintro _ _ ⟨a9,c9,bl,rfl,hrd,rfl,-⟩;refine Z5 ?_;refine xG (W6 S9 rfl rfl Et (by(repeat (first|exact c0F _|apply c2T|apply List.mem_append_right))) rfl) ?_;refine xg (E1 Et) (b7c p _ (hP.mono Sb)) ?_;rintro _ _ ⟨a14,c14,bl2,rfl,hrd2,rfl,-⟩;refine ZZ [5,2] ?_;refine xf (E2 Et Et) (CT.val (b1G _ _ _ _ _ _ _ _ _ _ (hrd.mono Vl Sb) (hrd2.mono Vl Sb)) (congrArg Value.bool (b4P _))) ?_;refine kA1 ?_;refine zU ?_;refine kA1 ?_;refine zU ?_;refine kA1 ?_;refine zU ?_;refine kA1 ?_;refine wV (b':=true) (by simp) ?_;refine kA2 ?_;refine zU ?_;refine xf E0 (c1u hg hp _) ?_;refine Z2 ?_;refine wT h ?_;rfl
end
end Go.Proofs.YtkgfanibfkdbfaaGreatDoor
