/- Texts towards the law HouseRight, put together (part 7): an abstract walk and its proof, functions of the program as trees, and plain laws. Conditions: none. -/
import Derived.Lib.Strings
import Derived.Lib.Slices
import Derived.Lib.Walk
import Derived.Lib.Bytealg
import Derived.KernelRfl
import Derived.Shelf.Strings.Builder1
import Derived.Shelf.Strings.BuilderF
import Derived.Shelf.Strings.BuilderK
import Derived.Shelf.Strings.Search1
import Derived.Shelf.Strings.Search2
import Derived.Shelf.Strings.Search3
import Derived.Shelf.Strings.Count
import Derived.Shelf.LaysM
import Derived.Shelf.Strings.Shaped
import Derived.Shelf.Strings.Split
import Derived.Test.YthkhikdglmaiaaaGreatDoorProg
import Derived.Lib.IndexMore
import Derived.Test.YthkhikdglmaiaaaGreatDoorK6
set_option linter.unnecessarySimpa false
set_option linter.unusedSimpArgs false
set_option linter.unusedVariables false
set_option maxRecDepth 100000
namespace Go.Proofs.YthkhikdglmaiaaaGreatDoor.X
open Go Go.RowKit Go.Proofs.YthkhikdglmaiaaaGreatDoor.Abs Go.Proofs.YthkhikdglmaiaaaGreatDoor.Bits
set_option linter.unusedVariables false
set_option linter.unnecessarySimpa false
set_option linter.unusedSimpArgs false
set_option maxRecDepth 100000
theorem zarb {s:List UInt8} (h:EndOk s) (a p:Int) (i off:Nat):(swp s a p i off).length=alln s:=by
 obtain ⟨l1,l2,l3,l4,l5,l6,l7⟩:=zpd h
 unfold swp; rw [List.length_append,zbf,z5y]; omega
theorem z3w {s:List UInt8} (h:EndOk s) (hl:s.length<=Lim) {a p:Int} (ha:U32 a) (hp:U16 p):ze9 (s,(a,(p,())))=some (swp s a p 12 0,((0:Int),())) :=
 zaa (zvf h hl (i:=12) (off:=0) ha hp (.inl rfl) (.inl rfl)) (ev_r rfl)
theorem zn2b {s:List UInt8} (h:EndOk s) (hl:s.length<=Lim) {a p:Int} (ha:U32 a) (hp:U16 p):z2d (s,(a,(p,())))=some (swp s a p 16 2,((0:Int),())) :=
 zaa (zvf h hl (i:=16) (off:=2) ha hp (.inr rfl) (.inr rfl)) (ev_r rfl)
theorem ze4b (s:List UInt8):cOf s=6\/cOf s=16:=by unfold cOf; split <;> simp
theorem zdab {s:List UInt8} (h:EndOk s) {a p:Int} (ha:U32 a) (hp:U16 p) :
   EndOk (swp s a p 12 0)/\(pk (swp s a p 12 0)).from'=a/\(pk (swp s a p 12 0)).to=(pk s).to/\wAt (pk (swp s a p 12 0)).data 0=p/\wAt (pk (swp s a p 12 0)).data 2=wAt (pk s).data 2/\(swp s a p 12 0).getD 9 0=s.getD 9 0:=by
 obtain ⟨h1,h2,h3,⟨k,h4⟩,h5⟩:=zasb h (i:=12) (off:=0) ha hp (.inl rfl) (.inl rfl)
 obtain ⟨l1,l2,l3,l4,l5,l6,l7⟩:=zpd h
 have hc:=ze4b s
 refine ⟨h1,by rw [h2]; rfl,by rw [h2]; rfl,?_,?_,h3⟩
 . rw [h2]; show wAt (dNew _ _ _ _ _ _ _ _) 0=p
   rw [h4,zae _ _ _ _ (by simp only [za7]; omega) (by omega),zhw _ _ _ (by omega),zhy hp]
 . rw [h2]; show wAt (dNew _ _ _ _ _ _ _ _) 2=_
   rw [h4,zae _ _ _ _ (by simp only [za7]; omega) (by omega),zae _ _ _ _ (by omega) (by omega)]
theorem zjrb {s:List UInt8} (h:EndOk s) {a p:Int} (ha:U32 a) (hp:U16 p) :
   EndOk (swp s a p 16 2)/\(pk (swp s a p 16 2)).to=a/\(pk (swp s a p 16 2)).from'=(pk s).from'/\wAt (pk (swp s a p 16 2)).data 2=p/\wAt (pk (swp s a p 16 2)).data 0=wAt (pk s).data 0/\(swp s a p 16 2).getD 9 0=s.getD 9 0:=by
 obtain ⟨h1,h2,h3,⟨k,h4⟩,h5⟩:=zasb h (i:=16) (off:=2) ha hp (.inr rfl) (.inr rfl)
 obtain ⟨l1,l2,l3,l4,l5,l6,l7⟩:=zpd h
 have hc:=ze4b s
 refine ⟨h1,by rw [h2]; rfl,by rw [h2]; rfl,?_,?_,h3⟩
 . rw [h2]; show wAt (dNew _ _ _ _ _ _ _ _) 2=p
   rw [h4,zae _ _ _ _ (by simp only [za7]; omega) (by omega),zhw _ _ _ (by omega),zhy hp]
 . rw [h2]; show wAt (dNew _ _ _ _ _ _ _ _) 0=_
   rw [h4,zae _ _ _ _ (by simp only [za7]; omega) (by omega),zae _ _ _ _ (by omega) (by omega)]
theorem zcpb (x:Int):zaw (x,())=some (wd x,()):=by
 unfold zaw zmg
 simp only [zu9,zktb]
 exact ev_g rfl (ev_g (by (first | (simp; done) | (simp; omega) | omega)) (ev_g (by (first | (simp; done) | (simp; omega) | omega)) (ev_r rfl)))
def ifl (p:TPacket):Int:=p.start+(if p.whole then 16384 else 0)+(if p.more then 8192 else 0)
def iA (p:TPacket):List UInt8:=[byteOf (64+(20+p.options.length) / 4),byteOf p.tos]++wd (20+p.options.length+p.data.length)++wd p.id++wd (ifl p)++[byteOf p.life,byteOf p.proto]
def iB (p:TPacket):List UInt8:=lg p.from'++lg p.to++p.options
def ick (p:TPacket):Int:=65535-(ear (ws (iA p++iB p)):Int)
def ib (p:TPacket):List UInt8:=iA p++wd (ick p)++iB p++p.data
theorem zkib (k c:Int) (hk:0<=k/\k<=255) (hc:0<=c/\c<=255):bits BinOp.or IntKind.i64 (IntKind.wrap IntKind.i64 (k*(2:Int)^(8:Nat))) c=k*256+c:=by
 have e3:IntKind.i64.wrap (k*2^8)=k*2^8:=zag ⟨by omega,by omega⟩
 rw [e3,zbi .i64 8 k c (by omega) (by omega) (by omega) (by show _<(2:Int)^64; omega) (fun _=>by show _<(2:Int)^63; omega)]
 omega
theorem zrs (l:List UInt8) (n m:Nat):(l.take n).drop m=(l.drop m).take (n-m):=List.drop_take ..
set_option maxHeartbeats 1000000 in
theorem zoub (x0 x1 x2 x3 x4 x5 x6 x7 x8 x9 x10 x11 : UInt8) (r : List UInt8) (s : List UInt8) (hs : s = x0 :: x1 :: x2 :: x3 :: x4 :: x5 :: x6 :: x7 :: x8 :: x9 :: x10 :: x11 :: r) (h : IpOk s) (hl : 2 <= x8.toNat) (y8 : UInt8) (hy8 : (y8.toNat : Int) = x8.toNat - 1) (C : Int)
   (hC : C = 65535 - (ear (65535 - (wv x10 x11).toNat + (65535 - (wv x8 x9).toNat) + (wv y8 x9).toNat) : Int)) (al : Nat) (hal : alln s = al) (t : List UInt8) (ht : t = x0 :: x1 :: x2 :: x3 :: x4 :: x5 :: x6 :: x7 :: y8 :: x9 :: byteOf (C / 256) :: byteOf C :: r.take (al - 12)) :
   IpOk t /\ pk t = { pk s with life := (pk s).life - 1 } /\ t.length = al := by
 have e0 : hn t = hn s := by rw [ht, hs]; rfl
 have e2 : wAt t 2 = wAt s 2 := by rw [ht, hs]; rfl
 have ea : alln t = al := by rw [<- hal]; unfold alln; rw [e2]
 have e6 : wAt t 6 = wAt s 6 := by rw [ht, hs]; rfl
 obtain ⟨h1, h2, h3, h4, h5, h6, h7, h8, h9, h10⟩ := h
 rw [hal] at h3 h6
 have hlen : s.length = r.length + 12 := by rw [hs]; simp
 have htl : t.length = al := by rw [ht]; simp; omega
 have hg : ∀ i, i + 12 < al -> (r.take (al - 12)).getD i 0 = r.getD i 0 := fun i hi => by
   rw [List.getD_eq_getElem?_getD, List.getElem?_take, if_pos (by omega), <- List.getD_eq_getElem?_getD]
 have l12 : lAt t 12 = lAt s 12 := by
   rw [ht, hs]
   show wv ((r.take (al - 12)).getD 0 0) ((r.take (al - 12)).getD 1 0) * 65536 + wv ((r.take (al - 12)).getD 2 0) ((r.take (al - 12)).getD 3 0) = wv (r.getD 0 0) (r.getD 1 0) * 65536 + wv (r.getD 2 0) (r.getD 3 0)
   rw [hg 0 (by omega), hg 1 (by omega), hg 2 (by omega), hg 3 (by omega)]
 have l16 : lAt t 16 = lAt s 16 := by
   rw [ht, hs]
   show wv ((r.take (al - 12)).getD 4 0) ((r.take (al - 12)).getD 5 0) * 65536 + wv ((r.take (al - 12)).getD 6 0) ((r.take (al - 12)).getD 7 0) = wv (r.getD 4 0) (r.getD 5 0) * 65536 + wv (r.getD 6 0) (r.getD 7 0)
   rw [hg 4 (by omega), hg 5 (by omega), hg 6 (by omega), hg 7 (by omega)]
 have hdr : ∀ m, 12 <= m -> t.drop m = (s.take (al)).drop m := fun m hm => by
   obtain ⟨j, rfl⟩ : ∃ j, m = j + 12 := ⟨m - 12, by omega⟩
   obtain ⟨a, ha⟩ : ∃ a, al = a + 12 := ⟨al - 12, by omega⟩
   rw [ht, ha, hs]
   show List.drop j (r.take (a + 12 - 12)) = List.drop j (r.take a)
   rw [Nat.add_sub_cancel]
 have hpk : pk t = { pk s with life := (pk s).life - 1 } := by
   have p8 : ((t.getD 8 0).toNat : Int) = ((s.getD 8 0).toNat : Int) - 1 := by rw [ht, hs]; exact hy8
   have p1 : t.getD 1 0 = s.getD 1 0 := by rw [ht, hs]; rfl
   have p9 : t.getD 9 0 = s.getD 9 0 := by rw [ht, hs]; rfl
   have p4 : wAt t 4 = wAt s 4 := by rw [ht, hs]; rfl
   have d1 : (t.take (hn s)).drop 20 = (s.take (hn s)).drop 20 := by
    rw [zrs, hdr 20 (by omega), zrs s (hn s), zrs s (al), List.take_take, Nat.min_eq_left (by omega)]
   have d2 : (t.take (al)).drop (hn s) = (s.take (al)).drop (hn s) := by
    rw [List.take_of_length_le (by omega), hdr _ (by omega)]
   unfold pk
   rw [e0, ea, hal, l12, l16, e6, p4, p1, p9, p8, d1, d2]
 have hb8 : (pk s).life = (x8.toNat : Int) := by rw [hs]; rfl
 have u8 := u8n x8
 refine ⟨⟨by omega, by omega, by omega, ?_, by omega, by omega, by omega, ?_, ?_, ?_⟩, hpk, htl⟩
 . rw [ht]; rw [hs] at h4; exact h4
 . rw [hpk]; exact ⟨h8.tos, by show 0 <= (pk s).life - 1 /\ (pk s).life - 1 <= 255; omega, h8.proto, h8.id, h8.start, h8.opt, h8.four, h8.one, h8.data⟩
 . obtain ⟨m, hm⟩ : ∃ m, hn s = m + 12 := ⟨hn s - 12, by omega⟩
   have hv : x0.toNat / 16 = 4 := by rw [hs] at h4; exact h4
   rw [e0, hm, ht]
   show ws (x0 :: x1 :: _) ≠ 0
   have := zco x0 x1 (List.take (m + 10) (x2 :: x3 :: x4 :: x5 :: x6 :: x7 :: y8 :: x9 :: byteOf (C / 256) :: byteOf C :: r.take (al - 12)))
   have b := zhs x0 x1
   have : wv x0 x1 ≠ 0 := by unfold wv; omega
   intro hz
   have hz' : ws (x0 :: x1 :: (List.take (m + 10) (x2 :: x3 :: x4 :: x5 :: x6 :: x7 :: y8 :: x9 :: byteOf (C / 256) :: byteOf C :: r.take (al - 12)))) = 0 := hz
   omega
 . obtain ⟨m, hm⟩ : ∃ m, hn s = m + 12 := ⟨hn s - 12, by omega⟩
   have hts : ws (s.take (m + 12)) % 65535 = 0 := by rw [<- hm]; exact h10
   rw [e0, hm]
   have hrm : (r.take (al - 12)).take m = r.take m := by rw [List.take_take, Nat.min_eq_left (by omega)]
   have f1 : t.take (m + 12) = x0 :: x1 :: x2 :: x3 :: x4 :: x5 :: x6 :: x7 :: y8 :: x9 :: byteOf (C / 256) :: byteOf C :: r.take m := by rw [ht, <- hrm]; rfl
   have f2 : s.take (m + 12) = x0 :: x1 :: x2 :: x3 :: x4 :: x5 :: x6 :: x7 :: x8 :: x9 :: x10 :: x11 :: r.take m := by rw [hs]; rfl
   rw [f1]
   rw [f2] at hts
   have g1 : (ws (x0 :: x1 :: x2 :: x3 :: x4 :: x5 :: x6 :: x7 :: y8 :: x9 :: byteOf (C / 256) :: byteOf C :: r.take m) : Int) = wv x0 x1 + (wv x2 x3 + (wv x4 x5 + (wv x6 x7 + (wv y8 x9 + (C % 65536 + ws (r.take m)))))) := by
    rw [zco, zco, zco, zco, zco, zco, zfvb]
   have g2 : (ws (x0 :: x1 :: x2 :: x3 :: x4 :: x5 :: x6 :: x7 :: x8 :: x9 :: x10 :: x11 :: r.take m) : Int) = wv x0 x1 + (wv x2 x3 + (wv x4 x5 + (wv x6 x7 + (wv x8 x9 + (wv x10 x11 + ws (r.take m)))))) := by
    rw [zco, zco, zco, zco, zco, zco]
   have b1 := zhs x8 x9; have b2 := zhs x10 x11; have b3 := zhs y8 x9
   have hem := zd1b (65535 - (wv x10 x11).toNat + (65535 - (wv x8 x9).toNat) + (wv y8 x9).toNat)
   have hel := zwh (65535 - (wv x10 x11).toNat + (65535 - (wv x8 x9).toNat) + (wv y8 x9).toNat)
   generalize ear (65535 - (wv x10 x11).toNat + (65535 - (wv x8 x9).toNat) + (wv y8 x9).toNat) = E at *
   have hC2 : C % 65536 = C := by omega
   rw [hC2] at g1
   clear hel hC2 hg hdr
   generalize ws (x0 :: x1 :: x2 :: x3 :: x4 :: x5 :: x6 :: x7 :: y8 :: x9 :: byteOf (C / 256) :: byteOf C :: List.take m r) = A at *
   generalize ws (x0 :: x1 :: x2 :: x3 :: x4 :: x5 :: x6 :: x7 :: x8 :: x9 :: x10 :: x11 :: List.take m r) = B at *
   have hE : ((E : Int) - ((65535 - wv x10 x11) + (65535 - wv x8 x9) + wv y8 x9)) % 65535 = 0 := by omega
   have hAB : ((A : Int) - B) % 65535 = 0 := by
    have : (A : Int) - B = -((E : Int) - ((65535 - wv x10 x11) + (65535 - wv x8 x9) + wv y8 x9)) - 65535 := by omega
    omega
   omega
theorem un1:∀ (s:List UInt8) (n:Nat),n+1<=s.length -> ∃ x r,s=x :: r/\n<=r.length
 | [],n,h=>by simp at h
 | x :: r,n,h=>⟨x,r,rfl,by simpa using h⟩
theorem un12 (s:List UInt8) (h:12<=s.length):∃ x0 x1 x2 x3 x4 x5 x6 x7 x8 x9 x10 x11 r,s=x0 :: x1 :: x2 :: x3 :: x4 :: x5 :: x6 :: x7 :: x8 :: x9 :: x10 :: x11 :: r:=by
 obtain ⟨x0,r0,rfl,g0⟩:=un1 s 11 h
 obtain ⟨x1,r1,rfl,g1⟩:=un1 r0 10 g0
 obtain ⟨x2,r2,rfl,g2⟩:=un1 r1 9 g1
 obtain ⟨x3,r3,rfl,g3⟩:=un1 r2 8 g2
 obtain ⟨x4,r4,rfl,g4⟩:=un1 r3 7 g3
 obtain ⟨x5,r5,rfl,g5⟩:=un1 r4 6 g4
 obtain ⟨x6,r6,rfl,g6⟩:=un1 r5 5 g5
 obtain ⟨x7,r7,rfl,g7⟩:=un1 r6 4 g6
 obtain ⟨x8,r8,rfl,g8⟩:=un1 r7 3 g7
 obtain ⟨x9,r9,rfl,g9⟩:=un1 r8 2 g8
 obtain ⟨x10,r10,rfl,g10⟩:=un1 r9 1 g9
 obtain ⟨x11,r11,rfl,g11⟩:=un1 r10 0 g10
 exact ⟨_,_,_,_,_,_,_,_,_,_,_,_,_,rfl⟩
theorem zkhb {s:List UInt8} (h:IpOk s) (hl:s.length<=Lim) (h2:(pk s).life<2):zin (s,())=some ([],(7,())):=by
 unfold zin zk0
 exact zaa (zj2 h hl) (ev_f rfl (ev_t (decide_eq_true h2) (ev_r rfl)))
theorem zkgb {s:List UInt8} (h:IpOk s) (hl:s.length<=Lim) (h2:2<=(pk s).life):∃ t,zin (s,())=some (t,(0,()))/\IpOk t/\pk t = { pk s with life:=(pk s).life-1 } /\ t.length<=s.length/\t.length=alln s:=by
 obtain ⟨x0,x1,x2,x3,x4,x5,x6,x7,x8,x9,x10,x11,r,hs⟩:=un12 s (by have:=h.len; omega)
 have hlife:(pk s).life=(x8.toNat:Int):=by rw [hs]; rfl
 have hproto:(pk s).proto=(x9.toNat:Int):=by rw [hs]; rfl
 have hw8:wAt s 8=wv x8 x9:=by rw [hs]; rfl
 have hw10:wAt s 10=wv x10 x11:=by rw [hs]; rfl
 have u8:=u8n x8; have u9:=u8n x9
 have b8:=zhs x8 x9; have b10:=zhs x10 x11; have b2:=zac s 2
 have hal:(alln s:Int)=wAt s 2:=by unfold alln; omega
 have hlen:=h.len; have hall:=h.all; have h20:=h.h20; have hha:=h.hall
 generalize hV:((x8.toNat:Int)-1)*256+x9.toNat=V
 have hVb:0<=V/\V<=65535:=by omega
 have hy:((byteOf (V / 256)).toNat:Int)=(x8.toNat:Int)-1:=by rw [zdx]; omega
 have hyv:wv (byteOf (V / 256)) x9=V:=by unfold wv; rw [hy]; omega
 have hb9:byteOf V=x9:=by
   rw [<- ziu x9]; unfold byteOf
   have:V%256=(x9.toNat:Int)%256:=by omega
   rw [this]
 obtain ⟨C,hC⟩:∃ C:Int,C=65535-(ear (65535-(wv x10 x11).toNat+(65535-(wv x8 x9).toNat)+(wv (byteOf (V / 256)) x9).toNat):Int):=⟨_,rfl⟩
 have hCb:0<=C/\C<=65535:=by
   have:=zwh (65535-(wv x10 x11).toNat+(65535-(wv x8 x9).toNat)+(wv (byteOf (V / 256)) x9).toNat)
   omega
 obtain ⟨k1,k2,k3⟩:=zoub x0 x1 x2 x3 x4 x5 x6 x7 x8 x9 x10 x11 r s hs h (by omega) (byteOf (V / 256)) hy C hC (alln s) rfl _ rfl
 refine ⟨_,?_,k1,k2,by omega,k3⟩
 have hor:bits BinOp.or IntKind.i64 (IntKind.wrap IntKind.i64 (IntKind.wrap IntKind.i64 ((pk s).life-(1:Int))*(2:Int)^(8:Nat))) (pk s).proto=V:=by
   rw [hlife,hproto,show IntKind.wrap IntKind.i64 ((x8.toNat:Int)-1)=(x8.toNat:Int)-1 from zag ⟨by omega,by omega⟩,zkib _ _ ⟨by omega,by omega⟩ ⟨by omega,by omega⟩]
   exact hV
 have hVw:IntKind.wrap IntKind.u16 V=V:=by rw [zi9]; omega
 have hVi:IntKind.wrap IntKind.i64 V=V:=zag ⟨by omega,by omega⟩
 have hCi:IntKind.wrap IntKind.i64 C=C:=zag ⟨by omega,by omega⟩
 have hfix:zg4 (IntKind.wrap IntKind.u16 (wAt s 10),(IntKind.wrap IntKind.u16 (wAt s 8),(IntKind.wrap IntKind.u16 (bits BinOp.or IntKind.i64 (IntKind.wrap IntKind.i64 (IntKind.wrap IntKind.i64 ((pk s).life-(1:Int))*(2:Int)^(8:Nat))) (pk s).proto),())))=some (C,()):=by
   rw [hor,hVw,hw8,hw10]
   have e1:IntKind.wrap IntKind.u16 (wv x10 x11)=((wv x10 x11).toNat:Int):=by rw [zi9]; omega
   have e2:IntKind.wrap IntKind.u16 (wv x8 x9)=((wv x8 x9).toNat:Int):=by rw [zi9]; omega
   have e3:V=((wv (byteOf (V / 256)) x9).toNat:Int):=by rw [hyv]; omega
   rw [e1,e2,hC]
   conv=>lhs; rw [e3]
   exact zjfb _ _ _ (by omega) (by omega) (by rw [hyv]; omega)
 have ht:List.drop 0 (List.take 8 s)++wd V++wd C++List.drop 12 (List.take (Int.toNat (wAt s 2)) s)=x0 :: x1 :: x2 :: x3 :: x4 :: x5 :: x6 :: x7 :: byteOf (V / 256) :: x9 :: byteOf (C / 256) :: byteOf C :: r.take (alln s-12):=by
   rw [<- hal,Int.toNat_natCast]
   obtain ⟨a,ha⟩:∃ a,alln s=a+12:=⟨alln s-12,by omega⟩
   rw [ha,Nat.add_sub_cancel,hs]
   show x0 :: x1 :: x2 :: x3 :: x4 :: x5 :: x6 :: x7 :: byteOf (V / 256) :: byteOf V :: byteOf (C / 256) :: byteOf C :: r.take a=_
   rw [hb9]
 unfold zin zk0
 refine zaa (zj2 h hl) (ev_f rfl (ev_f (decide_eq_false (by show ¬ (pk s).life<2; omega)) (zaa (za9 s 8 (by omega) hl) (ev_g rfl (zaa (za9 s 10 (by omega) hl) (zaa hfix (ev_g (by simp <;> omega) (zaa (zcpb _) ?_))))))))
 refine ev_g (by simp [wd]; unfold Lim at hl; omega) (zaa (zcpb _) (ev_g (by simp [wd]; unfold Lim at hl; omega) (zaa (za9 s 2 (by omega) hl) (ev_g (decide_eq_true ⟨by omega,by show (12:Int)<=wAt s 2; omega,by show wAt s 2<=(s.length:Int); omega⟩) (ev_g ?_ (ev_r ?_))))))
 . refine decide_eq_true ?_
   simp only [List.length_append,List.length_drop,List.length_take]
   unfold Lim at hl
   simp [wd]; omega
 . show (_++wd (IntKind.wrap IntKind.i64 (IntKind.wrap IntKind.u16 (bits BinOp.or IntKind.i64 (IntKind.wrap IntKind.i64 (IntKind.wrap IntKind.i64 ((pk s).life-(1:Int))*(2:Int)^(8:Nat))) (pk s).proto)))++wd (IntKind.wrap IntKind.i64 C)++_,_)=_
   rw [hor,hVw,hVi,hCi]
   exact congrArg (fun q=>(q,((0:Int),()))) ht
structure Hs where (out lt st life rate most:Int) (rules:List TRule) (els:Bool) (met:List TMeter) (trk:List TTalk) (nl lb:Int) (L:Nat) (sb:Int) (S:Nat) (maps:List TMap)
def Hs.t (h:Hs) {R:Type} (r:R):Int×(Int×(Int×(Int×(Int×(Int×((List TRule)×(Bool×((List TMeter)×((List TTalk)×(Int×(Int×(Int×(Int×(Int×((List TMap)×R))))))))))))))) :=
 (h.out,(h.lt,(h.st,(h.life,(h.rate,(h.most,(h.rules,(h.els,(h.met,(h.trk,(h.nl,(h.lb,((h.L:Int),(h.sb,((h.S:Int),(h.maps,r))))))))))))))))
structure PlanOk (h:Hs):Prop where
 lt:zb4 h.lt
 st:zb4 h.st
 life:1<=h.life/\h.life<=1000000
 rate:0<=h.rate/\h.rate<=1000000
 most:1<=h.most/\h.most<=1000000000
 rules:zqn h.rules=0
theorem zlwb (h:Hs):∃ c:Int,zgj (h.out,(h.lt,(h.st,(h.life,(h.rate,(h.most,(h.rules,(h.els,()))))))))=some (c,())/\(c=0↔PlanOk h):=by
 unfold zgj zgw
 have no:∀ {c:Int},c≠0->¬ PlanOk h->(c=0↔PlanOk h):=fun h1 h2=>⟨fun h=>absurd h h1,fun h=>absurd h h2⟩
 by_cases h1:zb4 h.lt
 case neg=>exact ⟨1,zaa (zit 0 h1) (ev_t rfl (ev_r rfl)),no (by decide) fun h=>h1 h.lt⟩
 by_cases h2:zb4 h.st
 case neg=>exact ⟨1,zaa (zb0 0 h1) (ev_f rfl (zaa (zit 0 h2) (ev_t rfl (ev_r rfl)))),no (by decide) fun h=>h2 h.st⟩
 have go:∀ {c:Int} {T:Tr (Int×Unit)},T.eval=some (c,())->(Tr.opt (β:=(Int×Unit)) ((zau (h.lt,((0:Int),())))) (fun r0 =>
   .ite (!decide (r0.1=(0:Int))) (
    .ret ((1:Int),())) (
    .opt (β:=(Int×Unit)) ((zau (h.st,((0:Int),())))) (fun r1 =>
    .ite (!decide (r1.1=(0:Int))) (
     .ret ((1:Int),())) T)))).eval=some (c,()):=fun hT=>zaa (zb0 0 h1) (ev_f rfl (zaa (zb0 0 h2) (ev_f rfl hT)))
 by_cases h3:h.life<1
 . exact ⟨1,go (ev_t (decide_eq_true h3) (ev_r rfl)),no (by decide) fun h=>by have:=h.life; omega⟩
 by_cases h4:1000000<h.life
 . exact ⟨1,go (ev_f (decide_eq_false h3) (ev_t (decide_eq_true h4) (ev_r rfl))),no (by decide) fun h=>by have:=h.life; omega⟩
 by_cases h5:h.rate<0
 . exact ⟨1,go (ev_f (decide_eq_false h3) (ev_f (decide_eq_false h4) (ev_t (decide_eq_true h5) (ev_r rfl)))),no (by decide) fun h=>by have:=h.rate; omega⟩
 by_cases h6:1000000<h.rate
 . exact ⟨1,go (ev_f (decide_eq_false h3) (ev_f (decide_eq_false h4) (ev_f (decide_eq_false h5) (ev_t (decide_eq_true h6) (ev_r rfl))))),no (by decide) fun h=>by have:=h.rate; omega⟩
 by_cases h7:h.most<1
 . exact ⟨1,go (ev_f (decide_eq_false h3) (ev_f (decide_eq_false h4) (ev_f (decide_eq_false h5) (ev_f (decide_eq_false h6) (ev_t (decide_eq_true h7) (ev_r rfl)))))),no (by decide) fun h=>by have:=h.most; omega⟩
 by_cases h8:1000000000<h.most
 . exact ⟨1,go (ev_f (decide_eq_false h3) (ev_f (decide_eq_false h4) (ev_f (decide_eq_false h5) (ev_f (decide_eq_false h6) (ev_f (decide_eq_false h7) (ev_t (decide_eq_true h8) (ev_r rfl))))))),no (by decide) fun h=>by have:=h.most; omega⟩
 exact ⟨zqn h.rules,go (ev_f (decide_eq_false h3) (ev_f (decide_eq_false h4) (ev_f (decide_eq_false h5) (ev_f (decide_eq_false h6) (ev_f (decide_eq_false h7) (ev_f (decide_eq_false h8) (zaa (z50 h.rules) (ev_r rfl)))))))),
   fun e=>⟨h1,h2,by omega,by omega,by omega,e⟩,fun h=>h.rules⟩

def mb (a:Int) (m:TMeter):Bool:=decide (m.addr=a)
def bOf (m:TMeter):Bu:=⟨m.rate,m.most,m.has,m.at'⟩
theorem z44 (h:Hs) (a:Int) (hl:h.met.length<Big):zo2 (h.t (a,()))=some ((match hit (mb a) h.met with | some r=>(r.1:Int) | none=>-1),()):=by
 unfold Big at hl
 have lp:=za1 (tag:=1320002) (f:=fun x=>(zbw x).eval) (l:=h.met) (fun i=>((i:Int),(h.met,((h.met.length:Int),(a,())))))
  (mb a) (fun r=>match r with | some r=>Sum.inl ((r.1:Int),(a,())) | none=>Sum.inr (a,()))
  (fun i x hx=>by
   have hi:=(List.getElem?_eq_some_iff.1 hx).1
   show (zbw _).eval=_
   unfold zbw
   refine ev_t (by simp <;> omega) (ev_g (by simp) (zaa (show h.met[Int.toNat (i:Int)]?=some x by simpa using hx) ?_))
   rw [zax i (by omega)]
   unfold mb
   cases h1:decide (x.addr=a) with
   | false=>exact ev_f rfl (ev_r rfl)
   | true=>exact ev_t rfl (ev_r rfl))
  (by show (zbw _).eval=_; exact ev_f (by simp) (ev_r rfl)) 18446744073709551616 (by omega)
 refine zaa lp ?_
 cases hit (mb a) h.met <;> exact ev_r rfl
def zizb (l:List TMeter) (rate most:Int):Prop:=l.length<=64/\(∀ m∈l,BOk (bOf m)/\m.rate=rate/\m.most=most)/\l.Pairwise (fun x y=>x.at'<=y.at'/\x.addr≠y.addr)
def pAt (l:List TMeter) (i:Nat):Int:=match i with | 0=>0 | i+1=>match l[i]? with | some m=>m.at' | none=>0
def MAt (l:List TMeter) (rate most:Int) (i:Nat) (x:TMeter):Prop:=BOk (bOf x)/\x.rate=rate/\x.most=most/\pAt l i<=x.at'/\(hit (mb x.addr) l).map (·.1)=some i
theorem zi8b {l:List TMeter} {rate most:Int}:(l.length<=64 /\ ∀ i x,l[i]?=some x->MAt l rate most i x)↔zizb l rate most:=by
 constructor
 . rintro ⟨h1,h2⟩
   refine ⟨h1,fun x hx=>?_,?_⟩
   . obtain ⟨i,hi,rfl⟩:=List.getElem_of_mem hx
     have:=h2 i _ (List.getElem?_eq_getElem hi)
     exact ⟨this.1,this.2.1,this.2.2.1⟩
   . rw [List.pairwise_iff_getElem]
     intro i j hi hj hij
     refine ⟨?_,?_⟩
     . have key:∀ d,∀ (k:Nat) (hk:k<l.length),k=i+d->l[i].at'<=l[k].at':=by
        intro d
        induction d with
        | zero=>intro k hk e; subst e; exact Int.le_refl _
        | succ d ih =>
         intro k hk e
         obtain ⟨k,rfl⟩:∃ q,k=q+1:=⟨k-1,by omega⟩
         have:=(h2 (k+1) _ (List.getElem?_eq_getElem hk)).2.2.2.1
         simp only [pAt,List.getElem?_eq_getElem (show k<l.length by omega)] at this
         exact Int.le_trans (ih k (by omega) (by omega)) this
       exact key (j-i) j hj (by omega)
     . intro he
       have h3:=(h2 j _ (List.getElem?_eq_getElem hj)).2.2.2.2
       have h4:mb l[j].addr l[i]=true:=decide_eq_true he
       have e:l=l.take i++l[i] :: l.drop (i+1):=by rw [<- List.drop_eq_getElem_cons hi,List.take_append_drop]
       rw [show hit (mb l[j].addr) l=hit (mb l[j].addr) (l.take i++l[i] :: l.drop (i+1)) from congrArg _ e,zio] at h3
       simp only [hit,h4,Option.map_some] at h3
       cases h5:hit (mb l[j].addr) (l.take i) with
       | none=>rw [h5] at h3; simp at h3; omega
       | some q =>
        rw [h5] at h3
        have:=zhn (i:=q.1) (x:=q.2) h5
        simp at h3 this; omega
 . rintro ⟨h1,h2,h3⟩
   refine ⟨h1,fun i x hx=>?_⟩
   obtain ⟨g1,g2,g3⟩:=h2 x (List.mem_of_getElem? hx)
   refine ⟨g1,g2,g3,?_,?_⟩
   . cases i with
     | zero=>exact g1.2.2.2.2.2.2.1
     | succ i =>
       obtain ⟨hi',rfl⟩:=List.getElem?_eq_some_iff.1 hx
       simp only [pAt,List.getElem?_eq_getElem (show i<l.length by omega)]
       exact ((List.pairwise_iff_getElem.1 h3) i (i+1) (by omega) hi' (by omega)).1
   . obtain ⟨hi',rfl⟩:=List.getElem?_eq_some_iff.1 hx
     have e:l=l.take i++l[i] :: l.drop (i+1):=by rw [<- List.drop_eq_getElem_cons hi',List.take_append_drop]
     have hn:hit (mb l[i].addr) (l.take i)=none:=zcb.2 fun y hy=>by
       obtain ⟨j,hj,rfl⟩:=List.getElem_of_mem hy
       have hj2:j<i:=by simp at hj; omega
       rw [List.getElem_take]
       have:=((List.pairwise_iff_getElem.1 h3) j i (by omega) hi' hj2).2
       exact decide_eq_false this
     have hs:mb l[i].addr l[i]=true:=decide_eq_true rfl
     generalize hx:l[i]=x at *
     conv=>lhs; rw [e]
     rw [zio,hn]
     simp only [hit,hs,Option.map_some,Option.none_or]
     simp; omega
structure HouseOk (h:Hs):Prop where
 plan:PlanOk h
 trk:Good h.trk
 nat:NatOk h.nl h.lb h.L h.sb h.S h.maps
 met:zizb h.met h.rate h.most
 el:h.nl=h.life
 eb:h.lb=h.lt
 es:h.sb=h.st
structure Fits (h:Hs):Prop where
 L:h.L<2^64
 S:h.S<2^64
 met:h.met.length*40<=140737488351232
 trk:h.trk.length*48<=140737488351232
 maps:h.maps.length*40<=140737488351232
 rules:h.rules.length*80<=140737488351232
theorem HouseOk.fits {h:Hs} (k:HouseOk h):Fits h:=by
 have h1:=k.nat.len.2.2
 have h2:=k.trk.1
 have h3:=k.met.1
 have h4:=(zg5.1 k.plan.rules).1
 exact ⟨k.nat.ltL,k.nat.ltS,by omega,by omega,by omega,by omega⟩
theorem zokb {life lb:Int} {L:Nat} {sb:Int} {S:Nat} {l:List TMap} (hL:L<2^64) (hS:S<2^64) (hl:l.length<BigN):∃ c:Int,zc6 (life,(lb,((L:Int),(sb,((S:Int),(l,()))))))=some (c,())/\(c=0↔NatOk life lb L sb S l):=by
 by_cases h:NatOk life lb L sb S l
 . exact ⟨0,zjz h hl,fun _=>h,fun _=>rfl⟩
 . obtain ⟨e,he,hc⟩:=z3e h hL hS hl
   exact ⟨e,hc,fun q=>absurd q he,fun q=>absurd q h⟩
theorem zv8 (h : Hs) (hf : Fits h) : ∃ c : Int, zo5 (h.t ()) = some (c, ()) /\ (c = 0 ↔ HouseOk h) := by
  obtain ⟨f1, f2, f3, f4, f5, f6⟩ := hf
  obtain ⟨c1, e1, q1⟩ := zlwb h
  obtain ⟨c2, e2, q2⟩ := zn9 h.trk
  obtain ⟨c3, e3, q3⟩ := zokb (life := h.nl) (lb := h.lb) (sb := h.sb) f1 f2 (show h.maps.length < BigN by unfold BigN; omega)
  have lp : ∃ r, zep ((0 : Int), (c1, (c2, (c3, h.t ())))) = some r /\ ((∃ c, c ≠ 0 /\ r = Sum.inl (c, ()) /\ ¬ (c1 = 0 /\ c2 = 0 /\ c3 = 0)) \/ (r = Sum.inr (h.t ()) /\ c1 = 0 /\ c2 = 0 /\ c3 = 0)) := by
    have s0 : c1 ≠ 0 -> (zav ((0 : Int), (c1, (c2, (c3, h.t ()))))).eval = some (.inr (.inl (c1, ()))) := fun q => ev_t rfl (ev_g rfl (zaa rfl (ev_t (by simpa using q) (ev_r rfl))))
    have s0' : c1 = 0 -> (zav ((0 : Int), (c1, (c2, (c3, h.t ()))))).eval = some (.inl ((1 : Int), (c1, (c2, (c3, h.t ()))))) := fun q => ev_t rfl (ev_g rfl (zaa rfl (ev_f (by simpa using q) (ev_r rfl))))
    have s1 : c2 ≠ 0 -> (zav ((1 : Int), (c1, (c2, (c3, h.t ()))))).eval = some (.inr (.inl (c2, ()))) := fun q => ev_t rfl (ev_g rfl (zaa rfl (ev_t (by simpa using q) (ev_r rfl))))
    have s1' : c2 = 0 -> (zav ((1 : Int), (c1, (c2, (c3, h.t ()))))).eval = some (.inl ((2 : Int), (c1, (c2, (c3, h.t ()))))) := fun q => ev_t rfl (ev_g rfl (zaa rfl (ev_f (by simpa using q) (ev_r rfl))))
    have s2 : c3 ≠ 0 -> (zav ((2 : Int), (c1, (c2, (c3, h.t ()))))).eval = some (.inr (.inl (c3, ()))) := fun q => ev_t rfl (ev_g rfl (zaa rfl (ev_t (by simpa using q) (ev_r rfl))))
    have s2' : c3 = 0 -> (zav ((2 : Int), (c1, (c2, (c3, h.t ()))))).eval = some (.inl ((3 : Int), (c1, (c2, (c3, h.t ()))))) := fun q => ev_t rfl (ev_g rfl (zaa rfl (ev_f (by simpa using q) (ev_r rfl))))
    have s3 : (zav ((3 : Int), (c1, (c2, (c3, h.t ()))))).eval = some (.inr (.inr (h.t ()))) := ev_f rfl (ev_r rfl)
    have L4 : zep ((0 : Int), (c1, (c2, (c3, h.t ())))) = zb2 400002 (fun x => (zav x).eval) (18446744073709551612 + 1 + 1 + 1 + 1) ((0 : Int), (c1, (c2, (c3, h.t ())))) := rfl
    rw [L4]
    by_cases z1 : c1 = 0
    case neg => exact ⟨_, zam (s0 z1), .inl ⟨c1, z1, rfl, fun q => z1 q.1⟩⟩
    rw [za2 (s0' z1)]
    by_cases z2 : c2 = 0
    case neg => exact ⟨_, zam (s1 z2), .inl ⟨c2, z2, rfl, fun q => z2 q.2.1⟩⟩
    rw [za2 (s1' z2)]
    by_cases z3 : c3 = 0
    case neg => exact ⟨_, zam (s2 z3), .inl ⟨c3, z3, rfl, fun q => z3 q.2.2⟩⟩
    rw [za2 (s2' z3)]
    exact ⟨_, zam s3, .inr ⟨rfl, z1, z2, z3⟩⟩
  obtain ⟨r, hr, hcase⟩ := lp
  unfold zo5
  have no : ∀ {c : Int}, c ≠ 0 -> ¬ HouseOk h -> (c = 0 ↔ HouseOk h) := fun h1 h2 => ⟨fun h => absurd h h1, fun h => absurd h h2⟩
  rcases hcase with ⟨c, hc, rfl, hn⟩ | ⟨rfl, z1, z2, z3⟩
  . exact ⟨c, (zaa e1 (zaa e2 (zaa e3 (zaa hr (ev_r rfl))))), no hc fun k => hn ⟨q1.2 k.plan, q2.2 k.trk, q3.2 k.nat⟩⟩
  by_cases g1 : 64 < h.met.length
  . exact ⟨4, (zaa e1 (zaa e2 (zaa e3 (zaa hr (ev_t (decide_eq_true (by show (64 : Int) < (h.met.length : Int); omega)) (ev_r rfl)))))), no (by decide) fun k => by have := k.met.1; omega⟩
  have d1 : decide ((64 : Int) < (h.met.length : Int)) = false := decide_eq_false (by omega)
  by_cases g2 : h.nl = h.life
  case neg => exact ⟨4, (zaa e1 (zaa e2 (zaa e3 (zaa hr (ev_f d1 (ev_t (by show (!decide (h.nl = h.life)) = true; simp [g2]) (ev_r rfl))))))), no (by decide) fun k => g2 k.el⟩
  have d2 : (!decide (h.nl = h.life)) = false := by simp [g2]
  by_cases g3 : h.lb = h.lt
  case neg => exact ⟨4, (zaa e1 (zaa e2 (zaa e3 (zaa hr (ev_f d1 (ev_f d2 (ev_t (by show (!decide (h.lb = h.lt)) = true; simp [g3]) (ev_r rfl)))))))), no (by decide) fun k => g3 k.eb⟩
  have d3 : (!decide (h.lb = h.lt)) = false := by simp [g3]
  by_cases g4 : h.sb = h.st
  case neg => exact ⟨4, (zaa e1 (zaa e2 (zaa e3 (zaa hr (ev_f d1 (ev_f d2 (ev_f d3 (ev_t (by show (!decide (h.sb = h.st)) = true; simp [g4]) (ev_r rfl))))))))), no (by decide) fun k => g4 k.es⟩
  have d4 : (!decide (h.sb = h.st)) = false := by simp [g4]
  have lp := z47 (tag := 400012) (f := fun x => (zbx x).eval) (l := h.met)
      (fun i => ((i : Int), (pAt h.met i, (h.met, ((h.met.length : Int), h.t (h.out, (h.lt, (h.st, (h.life, (h.rate, (h.most, (h.rules, (h.els, ())))))))))))))
      (MAt h.met h.rate h.most) (Sum.inl ((4 : Int), ())) (Sum.inr ())
      (fun i x hx => by
        have hi := (List.getElem?_eq_some_iff.1 hx).1
        obtain ⟨c, hc, hq⟩ := zws (bOf x)
        have hm := z44 h x.addr (by unfold Big; omega)
        have hp : pAt h.met (i + 1) = x.at' := by simp only [pAt, hx]
        show (MAt h.met h.rate h.most i x -> (zbx _).eval = _) /\ (¬ MAt h.met h.rate h.most i x -> (zbx _).eval = _)
        refine ⟨fun hA => ?_, fun hA => ?_⟩
        . obtain ⟨a1, a2, a3, a4, a5⟩ := hA
          refine ev_t (decide_eq_true (by show (i : Int) < (h.met.length : Int); omega)) (ev_g (decide_eq_true (by show (0 : Int) <= (i : Int); omega)) (zaa (show h.met[Int.toNat (i : Int)]? = some x by simpa using hx) (zaa hc (ev_f (by simp [hq.2 a1]) (ev_f (by show (!decide (x.rate = h.rate)) = false; simp [a2]) (ev_f (by show (!decide (x.most = h.most)) = false; simp [a3]) (ev_f (decide_eq_false (by show ¬ x.at' < pAt h.met i; omega)) (zaa hm ?_))))))))
          refine ev_f ?_ (ev_r ?_)
          . cases h5 : hit (mb x.addr) h.met with
            | none => rw [h5] at a5; cases a5
            | some q => rw [h5] at a5; have : q.1 = i := by simpa using a5
                        simp [this]
          . rw [zax i (by omega), hp]; rfl
        . refine ev_t (decide_eq_true (by show (i : Int) < (h.met.length : Int); omega)) (ev_g (decide_eq_true (by show (0 : Int) <= (i : Int); omega)) (zaa (show h.met[Int.toNat (i : Int)]? = some x by simpa using hx) (zaa hc ?_)))
          by_cases b1 : c = 0
          case neg => exact ev_t (by simpa using b1) (ev_r rfl)
          refine ev_f (by simpa using b1) ?_
          by_cases b2 : x.rate = h.rate
          case neg => exact ev_t (by show (!decide (x.rate = h.rate)) = true; simp [b2]) (ev_r rfl)
          refine ev_f (by show (!decide (x.rate = h.rate)) = false; simp [b2]) ?_
          by_cases b3 : x.most = h.most
          case neg => exact ev_t (by show (!decide (x.most = h.most)) = true; simp [b3]) (ev_r rfl)
          refine ev_f (by show (!decide (x.most = h.most)) = false; simp [b3]) ?_
          by_cases b4 : x.at' < pAt h.met i
          . exact ev_t (decide_eq_true b4) (ev_r rfl)
          refine ev_f (decide_eq_false b4) (zaa hm (ev_t ?_ (ev_r rfl)))
          have b5 : ¬ (hit (mb x.addr) h.met).map (·.1) = some i := fun q => hA ⟨hq.1 b1, b2, b3, by omega, q⟩
          cases h5 : hit (mb x.addr) h.met with
          | none => simp <;> omega
          | some q => rw [h5] at b5; have : ¬ q.1 = i := by simpa using b5
                      simp <;> omega)
      (by show (zbx _).eval = _; exact ev_f (by simp) (ev_r rfl)) 18446744073709551616 (by omega)
  rcases lp with ⟨k1, k2⟩ | ⟨k1, k2⟩
  . refine ⟨0, (zaa e1 (zaa e2 (zaa e3 (zaa hr (ev_f d1 (ev_f d2 (ev_f d3 (ev_f d4 (zaa k2 (ev_r rfl)))))))))), fun _ => ⟨q1.1 z1, q2.1 z2, q3.1 z3, zi8b.1 ⟨by omega, k1⟩, g2, g3, g4⟩, fun _ => rfl⟩
  . refine ⟨4, (zaa e1 (zaa e2 (zaa e3 (zaa hr (ev_f d1 (ev_f d2 (ev_f d3 (ev_f d4 (zaa k2 (ev_r rfl)))))))))), no (by decide) fun k => k1 (zi8b.2 k.met).2⟩

def zx2 (l:List TMeter):Int:=match l.getLast? with | some m=>m.at' | none=>0
def mx (a b:Int):Int:=if b>a then b else a
def z3l (h:Hs):Int:=mx (mx (zx2 h.met) (last h.trk)) (zhk h.maps)
theorem z0z (h:Hs) (k:HouseOk h):ztb (h.t ())=some (z3l h,()):=by
 have f1:=k.met.1; have f2:=k.trk.1; have f3:=k.nat.len.2.2
 unfold ztb
 have get:∀ {α:Type} (l:List α),0<l.length->l.length<=128->decide ((0:Int)<=IntKind.wrap IntKind.i64 ((↑(List.length l):Int)-(1:Int)))=true/\l[Int.toNat (IntKind.wrap IntKind.i64 ((↑(List.length l):Int)-(1:Int)))]?=l.getLast?:=by
   intro α l h1 h2
   rw [zni _ h1 (by omega)]
   exact ⟨by simp,by rw [List.getLast?_eq_getElem?]; simp⟩
 have ne:∀ {α:Type} (l:List α),¬ 0<l.length->l.getLast?=none:=fun l hl=>by
   have:l=[]:=List.eq_nil_of_length_eq_zero (by omega)
   rw [this]; rfl
 have sm:∀ {α:Type} (l:List α),0<l.length -> ∃ x,l.getLast?=some x:=fun l hl=>by
   cases e:l.getLast? with
   | none=>rw [List.getLast?_eq_none_iff] at e; rw [e] at hl; simp at hl
   | some x=>exact ⟨x,rfl⟩
 have nm:∀ x∈h.met,0<=x.at':=fun x hx=>((k.met.2.1 x hx).1).2.2.2.2.2.2.1
 have nt:∀ x∈h.trk,0<=x.at':=fun x hx=>(ztg (k.trk.2.1 x hx)).2.1
 have nn:∀ x∈h.maps,0<=x.at':=fun x hx=>(k.nat.ok x hx).2.2.2.1
 have z:∀ x:Int,0<=x->mx 0 x=x:=fun x hx=>by unfold mx; split <;> omega
 have z':∀ x:Int,0<=x->mx x 0=x:=fun x hx=>by unfold mx; rw [if_neg (by omega)]
 have nmx:∀ a b:Int,0<=a->0<=b->0<=mx a b:=fun a b h1 h2=>by unfold mx; split <;> omega
 unfold z3l zx2 last zhk
 by_cases c1:0<h.met.length
 . obtain ⟨x1,e1⟩:=sm _ c1
   refine ev_t (decide_eq_true (by show (0:Int)<(h.met.length:Int); omega)) (ev_g (get h.met c1 (by omega)).1 (zaa ((get h.met c1 (by omega)).2.trans e1) ?_))
   have p1:=nm x1 (List.mem_of_getLast? e1)
   by_cases c2:0<h.trk.length
   . obtain ⟨x2,e2⟩:=sm _ c2
     have p2:=nt x2 (List.mem_of_getLast? e2)
     refine ev_t (decide_eq_true (by show (0:Int)<(h.trk.length:Int); omega)) (ev_g (get h.trk c2 (by omega)).1 (zaa ((get h.trk c2 (by omega)).2.trans e2) ?_))
     by_cases c3:0<h.maps.length
     . obtain ⟨x3,e3⟩:=sm _ c3
       refine ev_t (decide_eq_true (by show (0:Int)<(h.maps.length:Int); omega)) (ev_g (get h.maps c3 (by omega)).1 (zaa ((get h.maps c3 (by omega)).2.trans e3) (ev_r ?_)))
       simp only [e1,e2,e3]; rfl
     . refine ev_f (decide_eq_false (by show ¬ (0:Int)<(h.maps.length:Int); omega)) (ev_r ?_)
       simp only [e1,e2,ne _ c3]; rw [z' _ (nmx _ _ p1 p2)]; rfl
   . refine ev_f (decide_eq_false (by show ¬ (0:Int)<(h.trk.length:Int); omega)) ?_
     by_cases c3:0<h.maps.length
     . obtain ⟨x3,e3⟩:=sm _ c3
       refine ev_t (decide_eq_true (by show (0:Int)<(h.maps.length:Int); omega)) (ev_g (get h.maps c3 (by omega)).1 (zaa ((get h.maps c3 (by omega)).2.trans e3) (ev_r ?_)))
       simp only [e1,ne _ c2,e3]; rw [z' _ p1]; rfl
     . refine ev_f (decide_eq_false (by show ¬ (0:Int)<(h.maps.length:Int); omega)) (ev_r ?_)
       simp only [e1,ne _ c2,ne _ c3]; rw [z' _ p1,z' _ p1]
 . refine ev_f (decide_eq_false (by show ¬ (0:Int)<(h.met.length:Int); omega)) ?_
   by_cases c2:0<h.trk.length
   . obtain ⟨x2,e2⟩:=sm _ c2
     have p2:=nt x2 (List.mem_of_getLast? e2)
     refine ev_t (decide_eq_true (by show (0:Int)<(h.trk.length:Int); omega)) (ev_g (get h.trk c2 (by omega)).1 (zaa ((get h.trk c2 (by omega)).2.trans e2) ?_))
     by_cases c3:0<h.maps.length
     . obtain ⟨x3,e3⟩:=sm _ c3
       refine ev_t (decide_eq_true (by show (0:Int)<(h.maps.length:Int); omega)) (ev_g (get h.maps c3 (by omega)).1 (zaa ((get h.maps c3 (by omega)).2.trans e3) (ev_r ?_)))
       simp only [ne _ c1,e2,e3]; rfl
     . refine ev_f (decide_eq_false (by show ¬ (0:Int)<(h.maps.length:Int); omega)) (ev_r ?_)
       simp only [ne _ c1,e2,ne _ c3]; rw [z' _ (nmx _ _ (Int.le_refl 0) p2)]; rfl
   . refine ev_f (decide_eq_false (by show ¬ (0:Int)<(h.trk.length:Int); omega)) ?_
     by_cases c3:0<h.maps.length
     . obtain ⟨x3,e3⟩:=sm _ c3
       refine ev_t (decide_eq_true (by show (0:Int)<(h.maps.length:Int); omega)) (ev_g (get h.maps c3 (by omega)).1 (zaa ((get h.maps c3 (by omega)).2.trans e3) (ev_r ?_)))
       simp only [ne _ c1,ne _ c2,e3]; rfl
     . refine ev_f (decide_eq_false (by show ¬ (0:Int)<(h.maps.length:Int); omega)) (ev_r ?_)
       simp only [ne _ c1,ne _ c2,ne _ c3]; rfl
structure Till (h:Hs) (now:Int):Prop where
 met:∀ m∈h.met,m.at'<=now
 trk:∀ m∈h.trk,m.at'<=now
 maps:∀ m∈h.maps,m.at'<=now
 pos:0<=now
theorem zhfb {l:List TMeter} {r m:Int} (h:zizb l r m):∀ x∈l,x.at'<=zx2 l:=by
 intro x hx
 unfold zx2
 cases e:l.getLast? with
 | none=>rw [List.getLast?_eq_none_iff] at e; rw [e] at hx; cases hx
 | some y =>
  obtain ⟨ys,rfl⟩:=List.getLast?_eq_some_iff.1 e
  rcases List.mem_append.1 hx with h1 | h1
  . exact ((List.pairwise_append.1 h.2.2).2.2 x h1 y (by simp)).1
  . simp at h1; rw [h1]; exact Int.le_refl _
theorem zheb {l:List TMeter} {now:Int} (h0:0<=now) (h:∀ m∈l,m.at'<=now):zx2 l<=now:=by
 unfold zx2
 cases e:l.getLast? with
 | none=>exact h0
 | some y=>exact h y (List.mem_of_getLast? e)
theorem zhdb {l:List TTalk} {now:Int} (h0:0<=now) (h:∀ m∈l,m.at'<=now):last l<=now:=by
 unfold last
 cases e:l.getLast? with
 | none=>exact h0
 | some y=>exact h y (List.mem_of_getLast? e)
theorem z4s {h:Hs} (k:HouseOk h) (now:Int):z3l h<=now↔Till h now:=by
 have a1:=zhfb k.met; have a2:=z3k k.trk; have a3:=zs2 k.nat.sorted
 constructor
 . intro hn
   have hz:0<=zx2 h.met:=by
    unfold zx2
    cases e:h.met.getLast? with
    | none=>exact Int.le_refl _
    | some y=>exact ((k.met.2.1 y (List.mem_of_getLast? e)).1).2.2.2.2.2.2.1
   have b:zx2 h.met<=now/\last h.trk<=now/\zhk h.maps<=now:=by
    unfold z3l mx at hn
    repeat' split at hn
    all_goals omega
   exact ⟨fun m hm=>Int.le_trans (a1 m hm) b.1,fun m hm=>Int.le_trans (a2 m hm) b.2.1,fun m hm=>Int.le_trans (a3 m hm) b.2.2,by omega⟩
 . rintro ⟨h1,h2,h3,h4⟩
   have b1:=zheb h4 h1; have b2:=zhdb h4 h2; have b3:=z0r h4 h3
   unfold z3l mx
   repeat' split
   all_goals omega
structure Fl where (a b pr p q:Int)
def wk (h:Hs) (f:Fl) (d:List UInt8) (now:Int):Int×(Int×(Int×(Int×(Int×(Int×((List TRule)×(Bool×((List TTalk)×(Int×(Int×(Int×(Int×(Int×((List TMap)×(Int×(Int×(Int×(Int×(Int×((List UInt8)×(Int×((List TMeter)×Unit)))))))))))))))))))))) :=
 (h.out,(h.lt,(h.st,(h.life,(h.rate,(h.most,(h.rules,(h.els,(h.trk,(h.nl,(h.lb,((h.L:Int),(h.sb,((h.S:Int),(h.maps,(f.a,(f.b,(f.pr,(f.p,(f.q,(d,(now,(h.met,())))))))))))))))))))))))
theorem ztv (l:List TMeter) (i j:Nat) (hij:i<=j) (hj:j<=l.length):zfy ((i:Int),((j:Int),(l,())))=some (l.take i++l.drop j,()):=by
 by_cases he:i=j
 . subst he
   show (zev _).eval=_
   refine ev_g (decide_eq_true (by omega)) (ev_t (decide_eq_true rfl) (ev_g (decide_eq_true rfl) (ev_r ?_)))
   rw [List.take_append_drop]
 . unfold zfy zev
   have hj2:Int.toNat ((l.length:Int)-(j:Int))=l.length-j:=by omega
   have hB:(List.take (l.length-j) (List.drop j l)).length=l.length-j:=by simp
   simp only [Int.toNat_natCast,hj2]
   refine ev_g (by simp <;> omega) (ev_f (by simp <;> omega) (ev_g (by simp <;> omega) (ev_g (by simp <;> omega) (ev_g (by simp <;> omega) (ev_g (by rw [hB]; simp; omega) ?_)))))
   refine ev_g (by simp [hB]; omega) (ev_g (by simp [hB]; omega) (ev_g (by simp [hB]; omega) (ev_r ?_)))
   simp only [del_eq l i j (by omega) (by omega)]
def mBu (h:Hs) (a now:Int):Bu:=match hit (mb a) h.met with | some r=>bOf r.2 | none=>⟨h.rate,h.most,h.most,now⟩
def zmf (h:Hs) (a:Int):List TMeter:=match hit (mb a) h.met with | some r=>h.met.take r.1++h.met.drop (r.1+1) | none=>if h.met.length=64 then h.met.drop 1 else h.met
def mOf (a:Int) (b:Bu):TMeter:=⟨a,b.rate,b.most,b.has,b.at'⟩
def mNew (h:Hs) (a now n:Int):List TMeter:=zmf h a++[mOf a (tkR (mBu h a now) now n).1]
def mHs (h:Hs) (a now n:Int):Hs:={ h with met:=mNew h a now n }
def mGo (h:Hs) (a now n:Int):Bool:=(tkR (mBu h a now) now n).2
theorem zb6b (h:Hs) (a:Int):(zmf h a).Sublist h.met:=by
 unfold zmf
 split
 . rename_i r e
   conv=>rhs; rw [<- List.take_append_drop r.1 h.met]
   exact List.Sublist.append_left (by rw [show r.1+1=1+r.1 by omega,<- List.drop_drop,List.drop_drop,Nat.add_comm,<- List.drop_drop]; exact List.drop_sublist _ _) _
 . split
   . exact List.drop_sublist _ _
   . exact List.Sublist.refl _
theorem z0m (h:Hs) (a:Int) (k:HouseOk h):(zmf h a).length<64:=by
 have:=k.met.1
 unfold zmf
 split
 . rename_i r e
   have:=zhn (i:=r.1) (x:=r.2) e
   simp; omega
 . split <;> simp <;> omega
theorem zb7b (h:Hs) (a:Int) (k:HouseOk h):∀ m∈zmf h a,m.addr≠a:=by
 intro m hm
 unfold zmf at hm
 split at hm
 . rename_i r e
   have h1:=zdp (i:=r.1) (x:=r.2) e
   obtain ⟨hlt,hx⟩:=List.getElem?_eq_some_iff.1 h1.1
   have ha:r.2.addr=a:=of_decide_eq_true h1.2
   have hp:=List.pairwise_iff_getElem.1 k.met.2.2
   rcases List.mem_append.1 hm with h2 | h2
   . obtain ⟨j,hj,rfl⟩:=List.getElem_of_mem h2
     rw [List.getElem_take]
     have hj2:j<r.1:=by simp at hj; omega
     have:=(hp j r.1 (by omega) hlt hj2).2
     rw [hx,ha] at this; exact this
   . obtain ⟨j,hj,rfl⟩:=List.getElem_of_mem h2
     rw [List.getElem_drop]
     have:=(hp r.1 (r.1+1+j) hlt (by simp at hj; omega) (by omega)).2
     rw [hx,ha] at this; exact fun q=>this q.symm
 . rename_i e
   have h1:=zcb.1 e
   have hm':m∈h.met:=by
     split at hm
     . exact List.mem_of_mem_drop hm
     . exact hm
   exact of_decide_eq_false (h1 m hm')
theorem zjab {h:Hs} (k:HouseOk h) {a now:Int} (ht:Till h now) (hn:now<=1099511627776):BOk (mBu h a now)/\(mBu h a now).rate=h.rate/\(mBu h a now).most=h.most/\(mBu h a now).at'<=now:=by
 have h0:=ht.pos; have p1:=k.plan.rate; have p2:=k.plan.most
 unfold mBu
 split
 . rename_i r e
   have hm:=List.mem_of_getElem? (zdp (i:=r.1) (x:=r.2) e).1
   obtain ⟨g1,g2,g3⟩:=k.met.2.1 _ hm
   exact ⟨g1,g2,g3,ht.met _ hm⟩
 . exact ⟨⟨p1.1,p1.2,p2.1,p2.2,by show 0<=h.most; omega,Int.le_refl _,h0,hn⟩,rfl,rfl,Int.le_refl _⟩
theorem zahb (b:Bu) (now n:Int):(tkR b now n).1.rate=b.rate/\(tkR b now n).1.most=b.most/\(tkR b now n).1.at'=now:=by
 unfold tkR; split <;> exact ⟨rfl,rfl,rfl⟩
theorem zomb {h:Hs} (k:HouseOk h) {a now n:Int} (ht:Till h now) (hn:now<=1099511627776) (h0:0<=n/\n<=1000000000):HouseOk (mHs h a now n)/\Till (mHs h a now n) now:=by
 obtain ⟨b1,b2,b3,b4⟩:=zjab (a:=a) k ht hn
 have tk:=zn3b (b:=mBu h a now) (now:=now) (n:=n) ⟨b1,b4,hn,h0.1,h0.2⟩
 obtain ⟨t1,t2,t3⟩:=zahb (mBu h a now) now n
 have hsub:=zb6b h a
 have hl:=z0m h a k
 have hno:=zb7b h a k
 refine ⟨⟨⟨k.plan.lt,k.plan.st,k.plan.life,k.plan.rate,k.plan.most,k.plan.rules⟩,k.trk,k.nat,⟨?_,?_,?_⟩,k.el,k.eb,k.es⟩,⟨?_,ht.trk,ht.maps,ht.pos⟩⟩
 . show (zmf h a++[_]).length<=64
   rw [List.length_append]; simp only [List.length_singleton]; omega
 . intro m hm
   rcases List.mem_append.1 hm with h1 | h1
   . exact k.met.2.1 m (hsub.subset h1)
   . simp at h1
     rw [h1]
     exact ⟨tk,t1.trans b2,t2.trans b3⟩
 . refine List.pairwise_append.2 ⟨k.met.2.2.sublist hsub,List.pairwise_singleton _ _,fun x hx y hy=>?_⟩
   simp at hy
   rw [hy]
   exact ⟨by show x.at'<=(tkR _ _ _).1.at'; rw [t3]; exact ht.met x (hsub.subset hx),hno x hx⟩
 . intro m hm
   rcases List.mem_append.1 hm with h1 | h1
   . exact ht.met m (hsub.subset h1)
   . simp at h1
     rw [h1]; show (tkR _ _ _).1.at'<=now; rw [t3]; exact Int.le_refl _
theorem z3g {h:Hs} (k:HouseOk h) (f:Fl) (d:List UInt8) {now:Int} (ht:Till h now) (hn:now<=1099511627776) (hd:d.length<=1000000000):zf2 (wk h f d now)=some (mGo h f.a now d.length,wk (mHs h f.a now d.length) f d now):=by
 obtain ⟨b1,b2,b3,b4⟩:=zjab (a:=f.a) k ht hn
 have hl64:=k.met.1
 have tk:=zjsb (b:=mBu h f.a now) (now:=now) (n:=d.length) ⟨b1,b4,hn,by omega,by omega⟩
 have hm:=z44 h f.a (by unfold Big; omega)
 have hrl:=z0m h f.a k
 have fin:∀ (R:List TMeter),R=zmf h f.a->(Tr.opt (β:=(Int×(Int×(Int×(Int×(Bool×(Int×Unit))))))) ((zhr ((mBu h f.a now).rate,((mBu h f.a now).most,((mBu h f.a now).has,((mBu h f.a now).at',(now,((↑(List.length d):Int),())))))))) (fun r1 =>
  .grd (decide ((List.length R+List.length [TMeter.mk f.a r1.1 r1.2.1 r1.2.2.1 r1.2.2.2.1])*(40:Nat)<=(140737488355328:Nat)/\List.length R+List.length [TMeter.mk f.a r1.1 r1.2.1 r1.2.2.1 r1.2.2.2.1]<=(9223372036854775807:Nat))) (
  .grd (decide (List.length (R++[TMeter.mk f.a r1.1 r1.2.1 r1.2.2.1 r1.2.2.2.1])=List.length (R++[TMeter.mk f.a r1.1 r1.2.1 r1.2.2.1 r1.2.2.2.1]))) (
  .ret (r1.2.2.2.2.1,(h.out,(h.lt,(h.st,(h.life,(h.rate,(h.most,(h.rules,(h.els,(h.trk,(h.nl,(h.lb,((h.L:Int),(h.sb,((h.S:Int),(h.maps,(f.a,(f.b,(f.pr,(f.p,(f.q,(d,(now,((R++[TMeter.mk f.a r1.1 r1.2.1 r1.2.2.1 r1.2.2.2.1]),())))))))))))))))))))))))))))).eval=some (mGo h f.a now d.length,wk (mHs h f.a now d.length) f d now):=by
  rintro R rfl
  refine zaa tk (ev_g (decide_eq_true ?_) (ev_g (decide_eq_true rfl) (ev_r rfl)))
  simp only [List.length_singleton]; omega
 unfold zf2
 refine zaa hm ?_
 cases e:hit (mb f.a) h.met with
 | some r =>
  have h1:=zdp (i:=r.1) (x:=r.2) e
  have hlt:=zhn (i:=r.1) (x:=r.2) e
  have eB:mBu h f.a now=bOf r.2:=by unfold mBu; rw [e]
  have eR:h.met.take r.1++h.met.drop (r.1+1)=zmf h f.a:=by unfold zmf; rw [e]
  refine ev_t (decide_eq_true (by show (0:Int)<=(r.1:Int); omega)) (ev_g (decide_eq_true (by show (0:Int)<=(r.1:Int)/\(r.1:Int)<(h.met.length:Int); omega)) (zaa (b:=r.2) (by show h.met[Int.toNat (r.1:Int)]?=some r.2; rw [Int.toNat_natCast]; exact h1.1) (ev_g (decide_eq_true rfl) (zaa (b:=(h.met.take r.1++h.met.drop (r.1+1),())) ?_ ?_))))
  . show zfy ((r.1:Int),(IntKind.wrap IntKind.i64 ((r.1:Int)+1),(h.met,())))=_
    rw [zax r.1 (by omega)]
    exact ztv _ _ _ (by omega) (by omega)
  . have:=fin _ eR
    rw [eB] at this
    exact this
 | none =>
  have eB:mBu h f.a now=⟨h.rate,h.most,h.most,now⟩:=by unfold mBu; rw [e]
  refine ev_f (decide_eq_false (by show ¬ (0:Int) <= -1; omega)) ?_
  by_cases h64:h.met.length=64
  . have eR:h.met.take 0++h.met.drop 1=zmf h f.a:=by unfold zmf; rw [e]; simp [h64]
    refine ev_t (decide_eq_true (by show (h.met.length:Int)=64; omega)) (ev_g (decide_eq_true rfl) (zaa (ztv h.met 0 1 (by omega) (by omega)) ?_))
    have:=fin _ eR
    rw [eB] at this
    exact this
  . have eR:h.met=zmf h f.a:=by unfold zmf; rw [e]; simp [h64]
    refine ev_f (decide_eq_false (by show ¬ (h.met.length:Int)=64; omega)) ?_
    have:=fin _ eR
    rw [eB] at this
    exact this

def kn (h:Hs) (w:Rd4) (now:Int):Bool:=match hit (meet w) h.trk with | none=>false | some q=>!oldB now q.2
theorem z5d {h:Hs} (k:HouseOk h) (w:Rd4) (f:Fl) (d:List UInt8) {now:Int} (h0:0<=now) (hn:now<=1099511627776):zmt (w.a,(w.b,(w.p,(w.q,wk h f d now))))=some (kn h w now,wk h f d now):=by
 unfold zmt
 refine zaa (zddb h.trk w now k.trk h0 hn) (ev_g (decide_eq_true rfl) (ev_r ?_))
 unfold fnd kn
 cases hit (meet w) h.trk with
 | none=>rfl
 | some q=>cases h1:oldB now q.2 <;> simp [h1,noT,okT] <;> rfl
def z4k (l:List TTalk) (w:Rd4) (flags now:Int) (l1:List TTalk) (ok:Bool):Prop :=
 ∃ (a:List TTalk) (b:Bool) (e:Int),zeb (l,(w.a,(w.b,(w.p,(w.q,(flags,(now,())))))))=some (a,(b,(e,())))/\l1=(if e=0 then a else l)/\ok=(decide (e=0)&&b)
theorem zc1b (l:List TTalk) (w:Rd4) (flags now:Int) (hg:Good l) (hr:InR l w flags now) {a:List TTalk} {ok:Bool} {e:Int} (h:zeb (l,(w.a,(w.b,(w.p,(w.q,(flags,(now,())))))))=some (a,(ok,(e,())))):∀ x∈a,x.at'<=now:=by
 rw [z02 l w flags now hg hr] at h
 obtain ⟨r1,r2,r3,r4,r5⟩:=hr
 have hl:∀ y∈l,y.at'<=now:=fun y hy=>Int.le_trans (z3k hg y hy) r4
 have hnow:∀ y∈zbe l now,y.at'<=now:=fun y hy=>hl y (zre.1 hy).1
 cases h2:hit (meet w) (zbe l now) with
 | none =>
  rw [zzg l w flags now hg h2] at h
  split at h
  . split at h
    . cases h; exact hl
    . cases h
      intro x hx
      rcases List.mem_append.1 hx with h3 | h3
      . exact hnow x h3
      . simp at h3; rw [h3]; exact Int.le_refl _
  . cases h; exact hnow
 | some q =>
  obtain ⟨i,x⟩:=q
  cases hrst:rstB flags with
  | true =>
    rw [zze l w flags now hg h2 hrst] at h
    cases h
    exact fun y hy=>hnow y ((zsm _ i).subset hy)
  | false =>
    obtain ⟨b,x',e1,e2,e3,e4⟩:=zzf l w flags now hg h2 hrst
    rw [e4] at h
    cases b with
    | false=>cases h; exact hnow
    | true =>
      cases h
      intro y hy
      rcases List.mem_append.1 hy with h3 | h3
      . exact hnow y ((zsm _ i).subset h3)
      . simp at h3; rw [h3,e2]; exact Int.le_refl _
theorem z5j {l:List TTalk} (hg:Good l) (w:Rd4) (flags now:Int) (hl:∀ x∈l,x.at'<=now):∃ l1 ok,z4k l w flags now l1 ok:=by
 have hb:l.length*48<=140737488351232:=by have:=hg.1; omega
 by_cases hr:InR l w flags now
 . obtain ⟨a,ok,e,h1,_⟩:=z5l l w flags now hg hr
   exact ⟨_,_,a,ok,e,h1,rfl,rfl⟩
 . obtain ⟨e,_,h1⟩:=z5k l w flags now hb fun q=>hr q.2
   exact ⟨_,_,_,_,_,h1,rfl,rfl⟩
theorem z8i {l:List TTalk} (hg:Good l) {w:Rd4} {flags now:Int} (hl:∀ x∈l,x.at'<=now) {l1:List TTalk} {ok:Bool} (h:z4k l w flags now l1 ok):Good l1 /\ ∀ x∈l1,x.at'<=now:=by
 obtain ⟨a,b,e,h1,rfl,rfl⟩:=h
 have hb:l.length*48<=140737488351232:=by have:=hg.1; omega
 by_cases he:e=0
 case neg=>rw [if_neg he]; exact ⟨hg,hl⟩
 rw [if_pos he]
 by_cases hr:InR l w flags now
 . obtain ⟨a',ok',e',h2,h3⟩:=z5l l w flags now hg hr
   rw [h1] at h2
   obtain ⟨rfl,rfl,rfl⟩:a=a'/\b=ok'/\e=e':=by simpa using h2
   refine ⟨?_,zc1b l w flags now hg hr h1⟩
   rcases h3 with ⟨h4,_⟩ | ⟨_,h4,_⟩
   . exact absurd he h4
   . exact h4
 . obtain ⟨e',he',h2⟩:=z5k l w flags now hb fun q=>hr q.2
   rw [h1] at h2
   obtain ⟨_,_,rfl⟩:a=l/\b=false/\e=e':=by simpa using h2
   exact absurd he he'
def flagsOf (d:List UInt8):Int:=(((pk d).data.getD 13 0).toNat:Int)
theorem zza {h:Hs} (w:Rd4) (f:Fl) (d:List UInt8) {now:Int} (hd:EndOk d) (h6:(d.getD 9 0).toNat=6) (hl:d.length<=Lim) {l1:List TTalk} {ok:Bool} (hh:z4k h.trk w (flagsOf d) now l1 ok) :
   zex (w.a,(w.b,(w.p,(w.q,wk h f d now))))=some (ok,wk { h with trk:=l1 } f d now):=by
 obtain ⟨a,b,e,h1,rfl,rfl⟩:=hh
 obtain ⟨u1,u2⟩:=z0a d
 obtain ⟨o,ho⟩:=zn5b u1 u2 (hd.tcp h6)
 unfold zex
 refine zaa (zj2 hd.ip hl) (zaa ho (zaa h1 ?_))
 by_cases he:e=0
 . have d1:decide (e=0)=true:=decide_eq_true he
   refine ev_t d1 (ev_t d1 (ev_g (decide_eq_true rfl) (ev_r ?_)))
   rw [if_pos he,d1]; rfl
 . have d1:decide (e=0)=false:=decide_eq_false he
   refine ev_f d1 (ev_f d1 (ev_g (decide_eq_true rfl) (ev_r ?_)))
   rw [if_neg he,d1]; rfl

def pass (h:Hs) (f:Fl):Bool:=(dec h.rules (zp7 f.a f.b f.pr f.p f.q) (badB f.pr f.p f.q) h.els).1
def road (f:Fl):Rd4:=⟨f.a,f.b,f.p,f.q⟩
structure Fit32 (h:Hs):Prop where
 out:U32 h.out
 adr:∀ m∈h.maps,U32 m.addr
def zl4b (h:Hs) (f:Fl) (w:Rd4) (d:List UInt8) (now:Int) (l1:List TTalk) (ok:Bool):Prop:=(f.pr≠6/\l1=h.trk/\ok=true)\/(f.pr=6/\z4k h.trk w (flagsOf d) now l1 ok)
def nOut (h:Hs) (f:Fl) (now:Int):Option (Int×(Int×(Int×(Int×(Int×((List TMap)×(Int×(Int×Unit)))))))):=zb1 (h.nl,(h.lb,((h.L:Int),(h.sb,((h.S:Int),(h.maps,(f.pr,(f.a,(f.p,(now,()))))))))))
inductive Leaves (h:Hs) (f:Fl) (d:List UInt8) (now:Int):Hs->List UInt8->Int->Prop
 | rules (h1:f.pr≠6\/kn h (road f) now=false) (h2:pass h f=false):Leaves h f d now h [] 4
 | talk (l1:List TTalk) (h1:f.pr=6) (h2:kn h (road f) now=true\/pass h f=true) (h3:z4k h.trk (road f) (flagsOf d) now l1 false):Leaves h f d now { h with trk:=l1 } [] 4
 | full (l1:List TTalk) (e:Int) (h1:(f.pr=6/\kn h (road f) now=true)\/pass h f=true) (h2:zl4b h f (road f) d now l1 true) (he:e≠0) (h3:nOut h f now=some (h.nl,(h.lb,((h.L:Int),(h.sb,((h.S:Int),(h.maps,((0:Int),(e,()))))))))):Leaves h f d now { h with trk:=l1 } [] 5
 | out (l1:List TTalk) (port:Int) (L2 S2:Nat) (m2:List TMap) (h1:(f.pr=6/\kn h (road f) now=true)\/pass h f=true) (h2:zl4b h f (road f) d now l1 true)
  (h3:nOut h f now=some (h.nl,(h.lb,((L2:Int),(h.sb,((S2:Int),(m2,(port,((0:Int),()))))))))) (hp:U16 port):Leaves h f d now { h with trk:=l1,L:=L2,S:=S2,maps:=m2 } (swp d h.out port 12 0) 0
theorem zkab {h:Hs} (k:HouseOk h) {f:Fl} {now:Int} (ht:Till h now) (hn:now<=1099511627776) (hpr:f.pr=17\/f.pr=6) (hp:0<=f.p/\f.p<=65535) (ha:U32 f.a) :
   (∃ e:Int,e≠0/\nOut h f now=some (h.nl,(h.lb,((h.L:Int),(h.sb,((h.S:Int),(h.maps,((0:Int),(e,()))))))))) \/ ∃ (port:Int) (L2 S2:Nat) (Z:List TMap),nOut h f now=some (h.nl,(h.lb,((L2:Int),(h.sb,((S2:Int),(Z++[⟨f.pr,f.a,f.p,port,now⟩],(port,((0:Int),())))))))) /\
    NatOk h.nl h.lb L2 h.sb S2 (Z++[⟨f.pr,f.a,f.p,port,now⟩])/\(∀ m∈Z,m∈h.maps/\now-m.at'<=h.nl/\kb f.pr f.a f.p m=false)/\(∀ m∈h.maps,now-m.at'<=h.nl->kb f.pr f.a f.p m=false->m∈Z):=by
 have hl:=k.nat.len.2.2
 have hA:ArgOk h.maps f.pr f.p now:=⟨hpr,hp,z0r ht.pos ht.maps,ht.pos,hn⟩
 obtain ⟨Y,_,hY,hcase⟩:=zodb (addr:=f.a) k.nat hA (by omega) (by unfold BigN; omega)
 rcases hcase with ⟨out,L2,S2,Z,ho,hN,_,hZ,_,_⟩ | ⟨ho,_⟩
 . exact .inr ⟨out,L2,S2,Z,ho,hN,fun m hm=>⟨((hY m).1 ((hZ m).1 hm).1).1,((hY m).1 ((hZ m).1 hm).1).2,((hZ m).1 hm).2⟩,fun m h1 h2 h3=>(hZ m).2 ⟨(hY m).2 ⟨h1,h2⟩,h3⟩⟩
 . exact .inl ⟨6,by decide,ho⟩
theorem zg6b {life lb:Int} {L:Nat} {sb:Int} {S:Nat} {l:List TMap} (h:NatOk life lb L sb S l):∀ m∈l,U16 m.out/\((m.proto=17/\lb<=m.out/\m.out<lb+64)\/(m.proto=6/\sb<=m.out/\m.out<sb+64)):=by
 intro m hm
 have hb:=h.bl; have hs:=h.bs
 unfold zb4 at hb hs
 unfold U16
 rcases (h.ok m hm).1 with e | e
 . have:m.out∈outs 17 l:=znl.2 ⟨m,hm,e,rfl⟩
   obtain ⟨k,h1,_,h3⟩:=(h.covL.2 _).1 this
   exact ⟨by omega,.inl ⟨e,by omega,by omega⟩⟩
 . have:m.out∈outs 6 l:=znl.2 ⟨m,hm,e,rfl⟩
   obtain ⟨k,h1,_,h3⟩:=(h.covS.2 _).1 this
   exact ⟨by omega,.inr ⟨e,by omega,by omega⟩⟩
theorem zh2b (h:Hs) (f:Fl):zfd (h.rules,(f.a,(f.b,(f.pr,(f.p,(f.q,(h.els,())))))))=some (dec h.rules (zp7 f.a f.b f.pr f.p f.q) (badB f.pr f.p f.q) h.els):=zehb _ _ _ _ _ _ _
def flow (s:List UInt8):Fl:=⟨(pk s).from',(pk s).to,((s.getD 9 0).toNat:Int),wAt (pk s).data 0,wAt (pk s).data 2⟩
theorem z3y {d:List UInt8} (hd:EndOk d):U32 (flow d).a/\U32 (flow d).b/\((flow d).pr=17\/(flow d).pr=6)/\U16 (flow d).p/\U16 (flow d).q/\((flow d).pr=6↔(d.getD 9 0).toNat=6):=by
 obtain ⟨u1,u2⟩:=z0a d
 refine ⟨u1,u2,?_,zac _ _,zac _ _,?_⟩
 . rcases hd.proto with h | h
   . right; show ((d.getD 9 0).toNat:Int)=6; omega
   . left; show ((d.getD 9 0).toNat:Int)=17; omega
 . show ((d.getD 9 0).toNat:Int)=6↔_; omega
def Fine (h:Hs) (now:Int):Prop:=HouseOk h/\Fit32 h/\Till h now
theorem Fine.trk {h:Hs} {now:Int} (k:Fine h now) {w:Rd4} {flags:Int} {l1:List TTalk} {ok:Bool} (hh:z4k h.trk w flags now l1 ok):Fine { h with trk:=l1 } now:=by
 obtain ⟨k1,k2,k3⟩:=k
 obtain ⟨g1,g2⟩:=z8i k1.trk k3.trk hh
 exact ⟨⟨⟨k1.plan.lt,k1.plan.st,k1.plan.life,k1.plan.rate,k1.plan.most,k1.plan.rules⟩,g1,k1.nat,k1.met,k1.el,k1.eb,k1.es⟩,⟨k2.out,k2.adr⟩,⟨k3.met,g2,k3.maps,k3.pos⟩⟩
theorem zxx {h:Hs} {now:Int} (k:Fine h now) (hn:now<=1099511627776) {d:List UInt8} (hd:EndOk d) :
   (∃ e:Int,e≠0/\(!decide (e=0))=true/\nOut h (flow d) now=some (h.nl,(h.lb,((h.L:Int),(h.sb,((h.S:Int),(h.maps,((0:Int),(e,()))))))))) \/
   (∃ (port:Int) (L2 S2:Nat) (m2:List TMap),nOut h (flow d) now=some (h.nl,(h.lb,((L2:Int),(h.sb,((S2:Int),(m2,(port,((0:Int),()))))))))/\U16 port/\Fine { h with L:=L2,S:=S2,maps:=m2 } now):=by
 obtain ⟨k1,k2,k3⟩:=k
 obtain ⟨f1,f2,f3,f4,f5,f6⟩:=z3y hd
 rcases zkab k1 k3 hn f3 f4 f1 with ⟨e,he,ho⟩ | ⟨port,L2,S2,Z,ho,hN,hZ,_⟩
 . left
   exact ⟨e,he,by rw [decide_eq_false he]; rfl,ho⟩
 . right
   have hp:U16 port:=(zg6b hN _ (List.mem_append_right _ (List.mem_singleton.2 rfl))).1
   refine ⟨port,L2,S2,_,ho,hp,⟨⟨k1.plan.lt,k1.plan.st,k1.plan.life,k1.plan.rate,k1.plan.most,k1.plan.rules⟩,k1.trk,hN,k1.met,k1.el,k1.eb,k1.es⟩,⟨k2.out,fun m hm=>?_⟩,⟨k3.met,k3.trk,fun m hm=>?_,k3.pos⟩⟩
   . rcases List.mem_append.1 hm with h1 | h1
     . exact k2.adr m (hZ m h1).1
     . simp at h1; rw [h1]; exact f1
   . rcases List.mem_append.1 hm with h1 | h1
     . exact k3.maps m (hZ m h1).1
     . simp at h1; rw [h1]; exact Int.le_refl _
theorem zceb {h:Hs} {now:Int} (k:Fine h now) (hn:now<=1099511627776) {d:List UInt8} (hd:EndOk d) (hl:d.length<=Lim) :
  ∃ (h':Hs) (out:List UInt8) (why:Int),zkn (wk h (flow d) d now)=some (out,(why,wk h' (flow d) d now))/\Leaves h (flow d) d now h' out why/\Fine h' now:=by
 obtain ⟨f1,f2,f3,f4,f5,f6⟩:=z3y hd
 have hdec:=zh2b h (flow d)
 have h0:=k.2.2.pos
 unfold zkn
 by_cases p6:(flow d).pr=6
 case neg =>
  have d6:decide ((flow d).pr=6)=false:=decide_eq_false p6
  have d6':(!decide ((flow d).pr=6))=true:=by rw [d6]; rfl
  cases hp:pass h (flow d) with
  | false=>exact ⟨h,[],4,ev_t d6' (zaa hdec (ev_t (by show (!pass h (flow d))=true; rw [hp]; rfl) (ev_g (decide_eq_true rfl) (ev_r rfl)))),.rules (.inl p6) hp,k⟩
  | true =>
   have np:(!pass h (flow d))=false:=by rw [hp]; rfl
   rcases zxx k hn hd with ⟨e,he,he',ho⟩ | ⟨port,L2,S2,m2,ho,hpo,hF⟩
   . exact ⟨h,[],5,ev_t d6' (zaa hdec (ev_f np (ev_f d6 (zaa ho (ev_t he' (ev_g (decide_eq_true rfl) (ev_r rfl))))))),.full h.trk e (.inr hp) (.inl ⟨p6,rfl,rfl⟩) he ho,k⟩
   . exact ⟨_,_,0,ev_t d6' (zaa hdec (ev_f np (ev_f d6 (zaa ho (ev_f rfl (zaa (z3w hd hl k.2.1.out hpo) (ev_g (decide_eq_true rfl) (ev_r rfl)))))))),.out h.trk port L2 S2 m2 (.inr hp) (.inl ⟨p6,rfl,rfl⟩) ho hpo,hF⟩
 have d6:decide ((flow d).pr=6)=true:=decide_eq_true p6
 have d6':(!decide ((flow d).pr=6))=false:=by rw [d6]; rfl
 have hkn:=z5d k.1 (road (flow d)) (flow d) d h0 hn
 obtain ⟨l1,ok,hh⟩:=z5j k.1.trk (road (flow d)) (flagsOf d) now k.2.2.trk
 have htk:=zza (h:=h) (road (flow d)) (flow d) d hd (f6.1 p6) hl hh
 have kF:=k.trk hh
 cases hk:kn h (road (flow d)) now with
 | false =>
  have nk:(!kn h (road (flow d)) now)=true:=by rw [hk]; rfl
  cases hp:pass h (flow d) with
  | false=>exact ⟨h,[],4,ev_f d6' (ev_g (decide_eq_true rfl) (zaa hkn (ev_t nk (zaa hdec (ev_t (by show (!pass h (flow d))=true; rw [hp]; rfl) (ev_g (decide_eq_true rfl) (ev_r rfl))))))),.rules (.inr hk) hp,k⟩
  | true =>
   have np:(!pass h (flow d))=false:=by rw [hp]; rfl
   cases ok with
   | false=>exact ⟨{ h with trk:=l1 },[],4,ev_f d6' (ev_g (decide_eq_true rfl) (zaa hkn (ev_t nk (zaa hdec (ev_f np (ev_t d6 (ev_g (decide_eq_true rfl) (zaa htk (ev_t rfl (ev_g (decide_eq_true rfl) (ev_r rfl))))))))))),.talk l1 p6 (.inr hp) hh,kF⟩
   | true =>
     rcases zxx kF hn hd with ⟨e,he,he',ho⟩ | ⟨port,L2,S2,m2,ho,hpo,hF⟩
     . exact ⟨{ h with trk:=l1 },[],5,ev_f d6' (ev_g (decide_eq_true rfl) (zaa hkn (ev_t nk (zaa hdec (ev_f np (ev_t d6 (ev_g (decide_eq_true rfl) (zaa htk (ev_f rfl (zaa ho (ev_t he' (ev_g (decide_eq_true rfl) (ev_r rfl))))))))))))),.full l1 e (.inr hp) (.inr ⟨p6,hh⟩) he ho,kF⟩
     . exact ⟨{ h with trk:=l1,L:=L2,S:=S2,maps:=m2 },swp d h.out port 12 0,0,ev_f d6' (ev_g (decide_eq_true rfl) (zaa hkn (ev_t nk (zaa hdec (ev_f np (ev_t d6 (ev_g (decide_eq_true rfl) (zaa htk (ev_f rfl (zaa ho (ev_f rfl (zaa (z3w hd hl k.2.1.out hpo) (ev_g (decide_eq_true rfl) (ev_r rfl)))))))))))))),.out l1 port L2 S2 m2 (.inr hp) (.inr ⟨p6,hh⟩) ho hpo,hF⟩
 | true =>
  have nk:(!kn h (road (flow d)) now)=false:=by rw [hk]; rfl
  cases ok with
  | false=>exact ⟨{ h with trk:=l1 },[],4,ev_f d6' (ev_g (decide_eq_true rfl) (zaa hkn (ev_f nk (ev_t d6 (ev_g (decide_eq_true rfl) (zaa htk (ev_t rfl (ev_g (decide_eq_true rfl) (ev_r rfl))))))))),.talk l1 p6 (.inl hk) hh,kF⟩
  | true =>
   rcases zxx kF hn hd with ⟨e,he,he',ho⟩ | ⟨port,L2,S2,m2,ho,hpo,hF⟩
   . exact ⟨{ h with trk:=l1 },[],5,ev_f d6' (ev_g (decide_eq_true rfl) (zaa hkn (ev_f nk (ev_t d6 (ev_g (decide_eq_true rfl) (zaa htk (ev_f rfl (zaa ho (ev_t he' (ev_g (decide_eq_true rfl) (ev_r rfl))))))))))),.full l1 e (.inl ⟨p6,hk⟩) (.inr ⟨p6,hh⟩) he ho,kF⟩
   . exact ⟨{ h with trk:=l1,L:=L2,S:=S2,maps:=m2 },swp d h.out port 12 0,0,ev_f d6' (ev_g (decide_eq_true rfl) (zaa hkn (ev_f nk (ev_t d6 (ev_g (decide_eq_true rfl) (zaa htk (ev_f rfl (zaa ho (ev_f rfl (zaa (z3w hd hl k.2.1.out hpo) (ev_g (decide_eq_true rfl) (ev_r rfl)))))))))))),.out l1 port L2 S2 m2 (.inl ⟨p6,hk⟩) (.inr ⟨p6,hh⟩) ho hpo,hF⟩
def zjq (f:Fl) (addr port:Int):Rd4:=⟨f.a,addr,f.p,port⟩
def nIn (h:Hs) (f:Fl) (now:Int):Option (Nat×TMap):=hit (inB h.nl f.pr f.q now) h.maps
inductive Enters (h:Hs) (f:Fl) (d:List UInt8) (now:Int):Hs->List UInt8->Int->Prop
 | none (h1:nIn h f now=.none):Enters h f d now h [] 4
 | unknown (r:Nat×TMap) (h1:nIn h f now=some r) (h2:f.pr=6) (h3:kn h (zjq f r.2.addr r.2.port) now=false):Enters h f d now h [] 4
 | talk (r:Nat×TMap) (l1:List TTalk) (h1:nIn h f now=some r) (h2:f.pr=6) (h3:kn h (zjq f r.2.addr r.2.port) now=true) (h4:z4k h.trk (zjq f r.2.addr r.2.port) (flagsOf d) now l1 false):Enters h f d now { h with trk:=l1 } [] 4
 | ins (r:Nat×TMap) (l1:List TTalk) (h1:nIn h f now=some r) (h2:f.pr=6->kn h (zjq f r.2.addr r.2.port) now=true) (h3:zl4b h f (zjq f r.2.addr r.2.port) d now l1 true) (h4:U32 r.2.addr/\U16 r.2.port):Enters h f d now { h with trk:=l1 } (swp d r.2.addr r.2.port 16 2) 0
theorem zdrb {h:Hs} {now:Int} (k:Fine h now) (hn:now<=1099511627776) {d:List UInt8} (hd:EndOk d) (hl:d.length<=Lim) :
  ∃ (h':Hs) (out:List UInt8) (why:Int),zko (wk h (flow d) d now)=some (out,(why,wk h' (flow d) d now))/\Enters h (flow d) d now h' out why/\Fine h' now:=by
 obtain ⟨f1,f2,f3,f4,f5,f6⟩:=z3y hd
 have h0:=k.2.2.pos
 have hlm:=k.1.nat.len.2.2
 have hin:=zpxb (out:=(flow d).q) k.1.nat f3 ⟨h0,hn⟩ (by unfold BigN; omega)
 have hr:∀ r,nIn h (flow d) now=some r->U32 r.2.addr/\U16 r.2.port:=fun r e=>by
  have hm:=List.mem_of_getElem? (zdp (i:=r.1) (x:=r.2) e).1
  exact ⟨k.2.1.adr _ hm,(k.1.nat.ok _ hm).2.1,(k.1.nat.ok _ hm).2.2.1⟩
 have hE:nIn h (flow d) now=hit (inB h.nl (flow d).pr (flow d).q now) h.maps:=rfl
 unfold zko
 rw [<- hE] at hin
 cases e:nIn h (flow d) now with
 | none =>
  rw [e] at hin
  exact ⟨h,[],4,zaa hin (ev_t rfl (ev_g (decide_eq_true rfl) (ev_r rfl))),.none e,k⟩
 | some r =>
  rw [e] at hin
  obtain ⟨ra,rp⟩:=hr r e
  by_cases p6:(flow d).pr=6
  case neg =>
   exact ⟨h,_,0,zaa hin (ev_f rfl (ev_f (decide_eq_false p6) (zaa (zn2b hd hl ra rp) (ev_g (decide_eq_true rfl) (ev_r rfl))))),.ins r h.trk e (fun q=>absurd q p6) (.inl ⟨p6,rfl,rfl⟩) ⟨ra,rp⟩,k⟩
  have d6:decide ((flow d).pr=6)=true:=decide_eq_true p6
  have hkn:=z5d k.1 (zjq (flow d) r.2.addr r.2.port) (flow d) d h0 hn
  cases hk:kn h (zjq (flow d) r.2.addr r.2.port) now with
  | false =>
   have nk:(!kn h (zjq (flow d) r.2.addr r.2.port) now)=true:=by rw [hk]; rfl
   exact ⟨h,[],4,zaa hin (ev_f rfl (ev_t d6 (ev_g (decide_eq_true rfl) (zaa hkn (ev_t nk (ev_g (decide_eq_true rfl) (ev_r rfl))))))),.unknown r e p6 hk,k⟩
  | true =>
   have nk:(!kn h (zjq (flow d) r.2.addr r.2.port) now)=false:=by rw [hk]; rfl
   obtain ⟨l1,ok,hh⟩:=z5j k.1.trk (zjq (flow d) r.2.addr r.2.port) (flagsOf d) now k.2.2.trk
   have htk:=zza (h:=h) (zjq (flow d) r.2.addr r.2.port) (flow d) d hd (f6.1 p6) hl hh
   have kF:=k.trk hh
   cases ok with
   | false=>exact ⟨{ h with trk:=l1 },[],4,zaa hin (ev_f rfl (ev_t d6 (ev_g (decide_eq_true rfl) (zaa hkn (ev_f nk (ev_g (decide_eq_true rfl) (zaa htk (ev_t rfl (ev_g (decide_eq_true rfl) (ev_r rfl)))))))))),.talk r l1 e p6 hk hh,kF⟩
   | true=>exact ⟨{ h with trk:=l1 },_,0,zaa hin (ev_f rfl (ev_t d6 (ev_g (decide_eq_true rfl) (zaa hkn (ev_f nk (ev_g (decide_eq_true rfl) (zaa htk (ev_f rfl (zaa (zn2b hd hl ra rp) (ev_g (decide_eq_true rfl) (ev_r rfl))))))))))),.ins r l1 e (fun _=>hk) (.inr ⟨p6,hh⟩) ⟨ra,rp⟩,kF⟩
structure Hop (s t:List UInt8):Prop where
 fn:zin (s,())=some (t,((0:Int),()))
 ends:EndOk t
 flow:flow t=flow s
 life:2<=(pk s).life/\(pk t).life=(pk s).life-1
 pk:pk t = { pk s with life:=(pk s).life-1 }
 len:t.length<=s.length
 all:t.length=alln s
 big:t.length<=65535
theorem zovb {s:List UInt8} (h:EndOk s) (hl:s.length<=Lim) (h2:2<=(pk s).life):∃ t,Hop s t:=by
 obtain ⟨t,h3,h4,h5,h6,h7⟩:=zkgb h.ip hl h2
 have h8:=(zpd h).2.2.2.2.2.1
 have e9:(t.getD 9 0).toNat=(s.getD 9 0).toNat:=by
   have:(pk t).proto=(pk s).proto:=by rw [h5]
   have:((t.getD 9 0).toNat:Int)=((s.getD 9 0).toNat:Int):=this
   omega
 have ed:(pk t).data=(pk s).data:=by rw [h5]
 have ef:(pk t).from'=(pk s).from':=by rw [h5]
 have eb:(pk t).to=(pk s).to:=by rw [h5]
 refine ⟨t,h3,⟨h4,by rw [e9]; exact h.proto,by rw [h5]; exact h.whole,?_,?_⟩,?_,⟨h2,by rw [h5]⟩,h5,h6,h7,by omega⟩
 . rw [e9,ed,ef,eb]; exact h.tcp
 . rw [e9,ed,ef,eb]; exact h.udp
 . unfold X.flow; rw [ed,ef,eb,e9]
inductive Goes (h:Hs) (ins:Bool) (s:List UInt8) (now:Int):Hs->List UInt8->Int->Prop
 | broken (h1:¬ EndOk s):Goes h ins s now h [] 1
 | other (h1:EndOk s) (h2:ins=false) (h3:(flow s).b≠h.out):Goes h ins s now h [] 4
 | life (h1:EndOk s) (h3:(pk s).life<2):Goes h ins s now h [] 2
 | much (t:List UInt8) (h1:EndOk s) (h2:Hop s t) (h3:mGo h (flow s).a now t.length=false) (h4:ins=true\/(flow s).b=h.out):Goes h ins s now (mHs h (flow s).a now t.length) [] 3
 | leaves (t:List UInt8) (h':Hs) (out:List UInt8) (why:Int) (h1:EndOk s) (h2:Hop s t) (h3:mGo h (flow s).a now t.length=true) (h4:ins=true) (h5:Leaves (mHs h (flow s).a now t.length) (flow s) t now h' out why):Goes h ins s now h' out why
 | enters (t:List UInt8) (h':Hs) (out:List UInt8) (why:Int) (h1:EndOk s) (h2:Hop s t) (h3:mGo h (flow s).a now t.length=true) (h4:ins=false) (h5:(flow s).b=h.out) (h6:Enters (mHs h (flow s).a now t.length) (flow s) t now h' out why):Goes h ins s now h' out why
theorem zkmb {h:Hs} {now:Int} (k:Fine h now) (hn:now<=1099511627776) (ins:Bool) {s:List UInt8} (hl:s.length<=Lim) (f0:Fl) (d0:List UInt8) :
   ∃ (h':Hs) (out:List UInt8) (why:Int) (f':Fl) (d':List UInt8),zwz (ins,(s,wk h f0 d0 now))=some (out,(why,wk h' f' d' now))/\Goes h ins s now h' out why/\Fine h' now:=by
 have hl':=hl
 unfold zwz
 by_cases hE:EndOk s
 case neg =>
   obtain ⟨e,he,h1⟩:=zhyb hE hl'
   exact ⟨h,[],1,⟨0,0,0,0,0⟩,d0,zaa h1 (ev_t (by show (!decide (e=0))=true; rw [decide_eq_false he]; rfl) (ev_g (decide_eq_true rfl) (ev_r rfl))),.broken hE,k⟩
 have hends:=zdtb hE hl'
 by_cases hb:ins=false/\(flow s).b≠h.out
 . obtain ⟨rfl,hb⟩:=hb
   exact ⟨h,[],4,flow s,d0,zaa hends (ev_f rfl (ev_t rfl (ev_t (by show (!decide ((flow s).b=h.out))=true; rw [decide_eq_false hb]; rfl) (ev_g (decide_eq_true rfl) (ev_r rfl))))),.other hE rfl hb,k⟩
 have hor:ins=true\/(flow s).b=h.out:=by
   cases ins with
   | true=>exact .inl rfl
   | false=>right; exact Classical.byContradiction fun q=>hb ⟨rfl,q⟩
 by_cases hlife:(pk s).life<2
 . have hh:=zkhb hE.ip hl' hlife
   cases ins with
   | true=>exact ⟨h,[],2,flow s,[],zaa hends (ev_f rfl (ev_f rfl (zaa hh (ev_t rfl (ev_g (decide_eq_true rfl) (ev_r rfl)))))),.life hE hlife,k⟩
   | false =>
    have hq:(flow s).b=h.out:=by rcases hor with q | q; (cases q); exact q
    exact ⟨h,[],2,flow s,[],zaa hends (ev_f rfl (ev_t rfl (ev_f (by show (!decide ((flow s).b=h.out))=false; rw [decide_eq_true hq]; rfl) (zaa hh (ev_t rfl (ev_g (decide_eq_true rfl) (ev_r rfl))))))),.life hE hlife,k⟩
 obtain ⟨t,ht⟩:=zovb hE hl' (by omega)
 have htl:=ht.len
 have htb:=ht.big
 have htl':t.length<=Lim:=Nat.le_trans htl hl'
 have hm:=z3g k.1 (flow s) t k.2.2 hn (by omega)
 obtain ⟨m1,m2⟩:=zomb (a:=(flow s).a) (n:=(t.length:Int)) k.1 k.2.2 hn ⟨by omega,by omega⟩
 have kM:Fine (mHs h (flow s).a now t.length) now:=⟨m1,⟨k.2.1.out,k.2.1.adr⟩,m2⟩
 cases hg:mGo h (flow s).a now t.length with
 | false =>
   have ng:(!mGo h (flow s).a now t.length)=true:=by rw [hg]; rfl
   cases ins with
   | true=>exact ⟨_,[],3,flow s,t,zaa hends (ev_f rfl (ev_f rfl (zaa ht.fn (ev_f rfl (ev_g (decide_eq_true rfl) (zaa hm (ev_t ng (ev_g (decide_eq_true rfl) (ev_r rfl))))))))),.much t hE ht hg hor,kM⟩
   | false =>
    have hq:(flow s).b=h.out:=by rcases hor with q | q; (cases q); exact q
    exact ⟨_,[],3,flow s,t,zaa hends (ev_f rfl (ev_t rfl (ev_f (by show (!decide ((flow s).b=h.out))=false; rw [decide_eq_true hq]; rfl) (zaa ht.fn (ev_f rfl (ev_g (decide_eq_true rfl) (zaa hm (ev_t ng (ev_g (decide_eq_true rfl) (ev_r rfl)))))))))),.much t hE ht hg hor,kM⟩
 | true =>
   have ng:(!mGo h (flow s).a now t.length)=false:=by rw [hg]; rfl
   cases ins with
   | true =>
    obtain ⟨h',out,why,q1,q2,q3⟩:=zceb kM hn ht.ends htl'
    rw [ht.flow] at q1 q2
    exact ⟨h',out,why,flow s,t,zaa hends (ev_f rfl (ev_f rfl (zaa ht.fn (ev_f rfl (ev_g (decide_eq_true rfl) (zaa hm (ev_f ng (ev_t rfl (ev_g (decide_eq_true rfl) (zaa q1 (ev_g (decide_eq_true rfl) (ev_r rfl)))))))))))),.leaves t h' out why hE ht hg rfl q2,q3⟩
   | false =>
    have hq:(flow s).b=h.out:=by rcases hor with q | q; (cases q); exact q
    obtain ⟨h',out,why,q1,q2,q3⟩:=zdrb kM hn ht.ends htl'
    rw [ht.flow] at q1 q2
    exact ⟨h',out,why,flow s,t,zaa hends (ev_f rfl (ev_t rfl (ev_f (by show (!decide ((flow s).b=h.out))=false; rw [decide_eq_true hq]; rfl) (zaa ht.fn (ev_f rfl (ev_g (decide_eq_true rfl) (zaa hm (ev_f ng (ev_f rfl (ev_g (decide_eq_true rfl) (zaa q1 (ev_g (decide_eq_true rfl) (ev_r rfl))))))))))))),.enters t h' out why hE ht hg rfl hq q2,q3⟩
theorem zkjb {h:Hs} {now:Int} (k:Fine h now) (hn:now<=1099511627776) (ins:Bool) {s:List UInt8} (hl:s.length<=Lim) :
  ∃ (h':Hs) (out:List UInt8) (why:Int),zel (h.t (ins,(s,(now,()))))=some (h'.t (out,(why,((0:Int),()))))/\Goes h ins s now h' out why/\Fine h' now:=by
 obtain ⟨g1,g2,g3,g4,g5,g6⟩:=k.1.fits
 obtain ⟨c,hc,hq⟩:=zv8 h k.1.fits
 have hc0:=hq.2 k.1
 have hlast:=z0z h k.1
 have ht:=(z4s k.1 now).2 k.2.2
 obtain ⟨h',out,why,f',d',q1,q2,q3⟩:=zkmb k hn ins hl ⟨0,0,0,0,0⟩ []
 refine ⟨h',out,why,?_,q2,q3⟩
 unfold zel
 refine ev_g (decide_eq_true (by show (0+h.rules.length)*80<=140737488355328/\0+h.rules.length<=9223372036854775807; omega)) (ev_g (decide_eq_true (by show (0+h.met.length)*40<=140737488355328/\0+h.met.length<=9223372036854775807; omega)) (ev_g (decide_eq_true (by show (0+h.trk.length)*48<=140737488355328/\0+h.trk.length<=9223372036854775807; omega)) (ev_g (decide_eq_true (by show (0+h.maps.length)*40<=140737488355328/\0+h.maps.length<=9223372036854775807; omega)) ?_)))
 refine zaa hc (ev_f (by show (!decide (c=0))=false; rw [decide_eq_true hc0]; rfl) (zaa hlast (ev_f (decide_eq_false (by show ¬ now<z3l h; omega)) (ev_f (decide_eq_false (by show ¬ 1099511627776<now; omega)) (ev_g (decide_eq_true rfl) (zaa q1 (ev_r rfl)))))))
theorem zkkb {h:Hs} (hf:Fits h) (ins:Bool) (s:List UInt8) {now:Int} (hbad:¬ (HouseOk h/\Till h now/\now<=1099511627776)) :
   ∃ e:Int,e≠0/\zel (h.t (ins,(s,(now,()))))=some (h.t ([],((0:Int),(e,())))):=by
 obtain ⟨g1,g2,g3,g4,g5,g6⟩:=hf
 obtain ⟨c,hc,hq⟩:=zv8 h ⟨g1,g2,g3,g4,g5,g6⟩
 unfold zel
 have b1:decide ((0+h.rules.length)*80<=140737488355328/\0+h.rules.length<=9223372036854775807)=true:=decide_eq_true (by omega)
 have b2:decide ((0+h.met.length)*40<=140737488355328/\0+h.met.length<=9223372036854775807)=true:=decide_eq_true (by omega)
 have b3:decide ((0+h.trk.length)*48<=140737488355328/\0+h.trk.length<=9223372036854775807)=true:=decide_eq_true (by omega)
 have b4:decide ((0+h.maps.length)*40<=140737488355328/\0+h.maps.length<=9223372036854775807)=true:=decide_eq_true (by omega)
 by_cases hc0:c=0
 case neg=>exact ⟨c,hc0,ev_g b1 (ev_g b2 (ev_g b3 (ev_g b4 (zaa hc (ev_t (by show (!decide (c=0))=true; rw [decide_eq_false hc0]; rfl) (ev_r rfl))))))⟩
 have k:=hq.1 hc0
 have hlast:=z0z h k
 have cf:(!decide (c=0))=false:=by rw [decide_eq_true hc0]; rfl
 by_cases h1:now<z3l h
 . exact ⟨1,by decide,ev_g b1 (ev_g b2 (ev_g b3 (ev_g b4 (zaa hc (ev_f cf (zaa hlast (ev_t (decide_eq_true h1) (ev_r rfl))))))))⟩
 by_cases h2:1099511627776<now
 . exact ⟨1,by decide,ev_g b1 (ev_g b2 (ev_g b3 (ev_g b4 (zaa hc (ev_f cf (zaa hlast (ev_f (decide_eq_false h1) (ev_t (decide_eq_true h2) (ev_r rfl)))))))))⟩
 exact absurd ⟨k,(z4s k now).1 (by omega),by omega⟩ hbad
structure Same8 (h h':Hs):Prop where
 out:h'.out=h.out
 lt:h'.lt=h.lt
 st:h'.st=h.st
 life:h'.life=h.life
 rate:h'.rate=h.rate
 most:h'.most=h.most
 rules:h'.rules=h.rules
 els:h'.els=h.els
theorem Same8.rfl' (h:Hs):Same8 h h:=⟨rfl,rfl,rfl,rfl,rfl,rfl,rfl,rfl⟩
theorem Leaves.same {h:Hs} {f:Fl} {d:List UInt8} {now:Int} {h':Hs} {out:List UInt8} {why:Int} (k:Leaves h f d now h' out why):Same8 h h'/\h'.met=h.met:=by
 cases k <;> exact ⟨⟨rfl,rfl,rfl,rfl,rfl,rfl,rfl,rfl⟩,rfl⟩
theorem Enters.same {h:Hs} {f:Fl} {d:List UInt8} {now:Int} {h':Hs} {out:List UInt8} {why:Int} (k:Enters h f d now h' out why):Same8 h h'/\h'.met=h.met:=by
 cases k <;> exact ⟨⟨rfl,rfl,rfl,rfl,rfl,rfl,rfl,rfl⟩,rfl⟩
theorem Goes.same {h:Hs} {ins:Bool} {s:List UInt8} {now:Int} {h':Hs} {out:List UInt8} {why:Int} (k:Goes h ins s now h' out why):Same8 h h':=by
 cases k with
 | broken=>exact .rfl' h
 | other=>exact .rfl' h
 | life=>exact .rfl' h
 | much=>exact ⟨rfl,rfl,rfl,rfl,rfl,rfl,rfl,rfl⟩
 | leaves t _ _ _ h1 h2 h3 h4 h5=>exact ⟨h5.same.1.1,h5.same.1.2,h5.same.1.3,h5.same.1.4,h5.same.1.5,h5.same.1.6,h5.same.1.7,h5.same.1.8⟩
 | enters t _ _ _ h1 h2 h3 h4 h5 h6=>exact ⟨h6.same.1.1,h6.same.1.2,h6.same.1.3,h6.same.1.4,h6.same.1.5,h6.same.1.6,h6.same.1.7,h6.same.1.8⟩
theorem Same8.trans {a b c:Hs} (h:Same8 a b) (k:Same8 b c):Same8 a c:=⟨k.1.trans h.1,k.2.trans h.2,k.3.trans h.3,k.4.trans h.4,k.5.trans h.5,k.6.trans h.6,k.7.trans h.7,k.8.trans h.8⟩
inductive StepR (h:Hs) (c:TCame):Hs->TWent->Prop
 | no (e:Int) (he:e≠0):StepR h c h ⟨[],0,e⟩
 | go (h':Hs) (out:List UInt8) (why:Int) (h1:Till h c.at') (h2:c.at'<=1099511627776) (h3:Goes h c.inside c.data c.at' h' out why):StepR h c h' ⟨out,why,0⟩
theorem StepR.same {h:Hs} {c:TCame} {h':Hs} {w:TWent} (k:StepR h c h' w):Same8 h h':=by
 cases k with
 | no=>exact .rfl' h
 | go _ _ _ h1 h2 h3=>exact h3.same
inductive RunR:Hs->List TCame->Hs->List TWent->Prop
 | nil (h:Hs):RunR h [] h []
 | cons {h h1 h2:Hs} {c:TCame} {cs:List TCame} {w:TWent} {ws:List TWent} (a:StepR h c h1 w) (b:RunR h1 cs h2 ws):RunR h (c :: cs) h2 (w :: ws)
theorem RunR.states {h:Hs} {l:List TCame} {h':Hs} {ws:List TWent} (k:RunR h l h' ws):ws.length=l.length /\ ∃ H:Nat->Hs,H 0=h/\H l.length=h' /\ ∀ (i:Nat) (c:TCame),l[i]?=some c -> ∃ w,ws[i]?=some w/\StepR (H i) c (H (i+1)) w:=by
 induction k with
 | nil h=>exact ⟨rfl,fun _=>h,rfl,rfl,fun i c hc=>by simp at hc⟩
 | @cons h h1 h2 c cs w ws a b ih =>
  obtain ⟨e,H,e1,e2,e3⟩:=ih
  refine ⟨by simp [e],fun i=>match i with | 0=>h | i+1=>H i,rfl,e2,fun i x hx=>?_⟩
  cases i with
  | zero =>
   simp at hx
   subst hx
   exact ⟨w,rfl,by show StepR h c (H 0) w; rw [e1]; exact a⟩
  | succ i =>
   obtain ⟨w',g1,g2⟩:=e3 i x (by simpa using hx)
   exact ⟨w',by simpa using g1,g2⟩
theorem zx5:zd6 ()=some (true,()):=by kernel_rfl
theorem zj6b {h:Hs} {f:Fl} {d:List UInt8} {now:Int} (hd:EndOk d) {h':Hs} {out:List UInt8} {why:Int} (k:Leaves h f d now h' out why):out.length<=d.length:=by
 have:=hd.ip.all
 cases k with
 | out=>rw [zarb hd]; exact this
 | _=>simp
theorem zosb {h:Hs} {f:Fl} {d:List UInt8} {now:Int} (hd:EndOk d) {h':Hs} {out:List UInt8} {why:Int} (k:Enters h f d now h' out why):out.length<=d.length:=by
 have:=hd.ip.all
 cases k with
 | ins=>rw [zarb hd]; exact this
 | _=>simp
def mkp (pr f t:Int) (d:List UInt8):TPacket:=⟨0,0,false,false,0,9,pr,f,t,[],d⟩
def lp (x y:Int) (d:List UInt8) (f t:Int):List UInt8:=ib (mkp 17 f t (lb x y d (lc f t x y d)))
theorem zhrb {h:Hs} {ins:Bool} {s:List UInt8} {now:Int} {h':Hs} {out:List UInt8} {why:Int} (k:Goes h ins s now h' out why):out.length<=Lim:=by
 cases k with
 | leaves t _ _ _ h1 h2 h3 h4 h5=>have:=zj6b h2.ends h5; have:=h2.big; unfold Lim; omega
 | enters t _ _ _ h1 h2 h3 h4 h5 h6=>have:=zosb h2.ends h6; have:=h2.big; unfold Lim; omega
 | _=>simp
end Go.Proofs.YthkhikdglmaiaaaGreatDoor.X
namespace Go.Proofs
set_option maxHeartbeats 1000000 in
set_option maxRecDepth 100000 in
theorem YthkhikdglmaiaaaGreatDoor.X.count_calls (s : ByteArray) (c : UInt8) (w : World) :
  Calls Tryz.prog 143 #[.string s, .string ⟨#[c]⟩] w fun e w' => e = .returned (.int .i64 (Lib.countByte s.data.toList c)) /\ w' = w := by
 go_enter Tryz.func143, Tryz.ntmps143
 go_wp2
 rw [run_callFunc_extern Tryz.func174 (by kernel_rfl) (by kernel_rfl) (by kernel_rfl) (e := Extern.BytealgCount.count) (by kernel_rfl), Lib.run_countString]
 simp only [Result.andThen]
 rw [Oper.upon_value]
 go_wp2
 go_ret
 exact ⟨rfl, rfl⟩
end Go.Proofs
namespace Go.Proofs.YthkhikdglmaiaaaGreatDoor.X
open Go Go.RowKit Go.Proofs.YthkhikdglmaiaaaGreatDoor.Abs
set_option linter.unusedVariables false
theorem z9k {P:Program} {f:FuncId} {ys:List V} {r:V} (hn:ys.length<=900)
  (h:∀ (w:World) (U:Nat->Prop) (β:Nat->Option Abs.Place) (us:Array Value),us.size=ys.length->(∀ t,RepV w β U w.heap.size (us.getD t undef) ((Abs.look t (zby 0 ys)).getD (.one .bad))) ->
   ∃ v,RepV w β U w.heap.size v r/\Calls P f us w fun e w'=>e=.returned v/\w'=w):ACall P f ys [] fun r' m''=>r'=r/\m''=[]:=by
 intro w U0 X β0 us hs
 obtain ⟨v,hv,hc⟩:=h w U0 β0 us hs.n hs.env
 refine hc.mono ?_
 rintro e w' ⟨rfl,rfl⟩
 refine ⟨v,r,[],rfl,⟨rfl,rfl⟩,β0,U0,{ hs with n:=rfl,small:=by simp,defers:=rfl,env:=fun t=>?_ }⟩
 show RepV w' β0 U0 w'.heap.size (#[v].getD t undef) ((Abs.look t [(0,r)]).getD (.one .bad))
 cases t with
 | zero=>exact hv
 | succ t=>simp [Abs.look]; exact .bad _
def zemb (ys:List V) (m:Mem):Option (Tr (V×Mem)) :=
 match ys,m with
 | [.one (.d (.s l)),.one (.d (.s [c]))],[]=>some (.ret (vi .i64 (Lib.countByte l c),[]))
 | _,_=>none
def zm9:PF Tryz.prog where
 f:=143
 own:=[]
 tr:=zemb
 ok:=by
  intro ys m T r m' h hT
  unfold zemb at h
  split at h
  . rename_i l c
    cases h; cases hT
    refine ⟨_,[],zgk _,trivial,z9k (by simp) fun w U β us hsz henv=>⟨.int .i64 (Lib.countByte l c),.one _ _ (.i .i64 _),?_⟩⟩
    have h0:=(show RepV w β U w.heap.size (us.getD 0 undef) (vs l) from henv 0).str
    have h1:=(show RepV w β U w.heap.size (us.getD 1 undef) (vs [c]) from henv 1).str
    have e:us = #[.string ⟨l.toArray⟩,.string ⟨#[c]⟩]:=by
     obtain ⟨us⟩:=us
     match us,hsz with
     | [a,b],_ =>
      have ha:a=_:=h0
      have hb:b=_:=h1
      rw [ha,hb]
    rw [e]
    exact count_calls _ c w
  . cases h
end Go.Proofs.YthkhikdglmaiaaaGreatDoor.X
/-
 DERIVED: THE SHELF's CONTRACTS AT THIS DUMP, IN PLAIN WORDS (tools/lay-plain.mjs out of 'TryzShelf.lean', which tools/lay-shelf.mjs wrote): THE SAME DECLARATIONS UNDER THE SAME NAMES: 'import', 'namespace', 'open', 'def', 'theorem' AND NOTHING ELSE: no command of the shelf's: FOR A HAND-IN. Each laying: the table of numbers ('.._ren') and one theorem, a field a fact of the dump's own or the kernel's comparison; each contract: ONE APPLICATION.
-/
namespace Go.Proofs
open Go.Shelf
def Tryz.lays144_ren:Go.Shelf.Ren:=⟨fun | 144=>191 | 143=>175 | 219=>190 | 217=>195 | 225=>196 | 224=>197 | 267=>198 | 266=>200 | 314=>201 | n=>n,fun | 9=>9 | 4=>4 | 3=>3 | 5=>5 | 46=>122 | 146=>254 | 51=>22 | n=>n,fun | 1=>0 | n=>n⟩
theorem Tryz.lays144:Go.Proofs.Lays.n144 Tryz.prog Tryz.lays144_ren:={
 mixed:=by kernel_rfl
 f143:=Tryz.func175.trans (congrArg some (by kernel_rfl))
 f144:=Tryz.func191.trans (congrArg some (by kernel_rfl))
 f217:=Tryz.func195.trans (congrArg some (by kernel_rfl))
 f219:=Tryz.func190.trans (congrArg some (by kernel_rfl))
 f224:=Tryz.func197.trans (congrArg some (by kernel_rfl))
 f225:=Tryz.func196.trans (congrArg some (by kernel_rfl))
 f266:=Tryz.func200.trans (congrArg some (by kernel_rfl))
 f267:=Tryz.func198.trans (congrArg some (by kernel_rfl))
 f314:=Tryz.func201.trans (congrArg some (by kernel_rfl))
 t3:=Tryz.underlying3
 a3:=Tryz.isAgg3
 z3:=Tryz.sizeOf3
 v3:=Tryz.zeroValue3
 t4:=Tryz.underlying4
 a4:=Tryz.isAgg4
 z4:=Tryz.sizeOf4
 v4:=Tryz.zeroValue4
 t5:=Tryz.underlying5
 a5:=Tryz.isAgg5
 z5:=Tryz.sizeOf5
 v5:=Tryz.zeroValue5
 t9:=Tryz.underlying9
 a9:=Tryz.isAgg9
 z9:=Tryz.sizeOf9
 v9:=Tryz.zeroValue9
 t46:=Tryz.underlying122
 a46:=Tryz.isAgg122
 z46:=Tryz.sizeOf122
 v46:=Tryz.zeroValue122
 t51:=Tryz.underlying22
 a51:=Tryz.isAgg22
 z51:=Tryz.sizeOf22
 v51:=Tryz.zeroValue22
 t146:=Tryz.underlying254
 a146:=Tryz.isAgg254
 z146:=Tryz.sizeOf254
 v146:=Tryz.zeroValue254
 g1:=by kernel_rfl }
open Go.RowKit Go.Lib in
/-- strings.Contains: "Contains reports whether substr is within s.": IT RETURNS 'Lib.contains s substr'; the world is as it was. (LAID: no walk: one application.) -/
theorem Tryz.strings_Contains (s sub : ByteArray) (m : Int) (w : World) (hs : s.size < 4294967281) (hm : w.cell? ⟨0, 0, none⟩ = some (.int .i64 m)) :
 Calls Tryz.prog 191 #[.string s, .string sub] w fun e w' => e = .returned (.bool (Lib.contains s.data.toList sub.data.toList)) /\ w' = w := Any.strings_Contains Tryz.lays144 s sub m w hs hm
end Go.Proofs
namespace Go.Proofs.YthkhikdglmaiaaaGreatDoor.X
open Go Go.RowKit Go.Proofs.YthkhikdglmaiaaaGreatDoor.Abs
set_option linter.unusedVariables false
set_option linter.unusedSimpArgs false
theorem ziyb {P:Program} {f:FuncId} {ys:List V} {r:V}
  (h:∀ (w:World) (U:Nat->Prop) (β:Nat->Option Abs.Place) (us:Array Value),us.size=ys.length->(∀ t,RepV w β U w.heap.size (us.getD t undef) ((Abs.look t (zby 0 ys)).getD (.one .bad)))->Glob U w ->
   ∃ v,RepV w β U w.heap.size v r/\Calls P f us w fun e w'=>e=.returned v/\w'=w):ACall P f ys [] fun r' m''=>r'=r/\m''=[]:=by
 intro w U0 X β0 us hs
 obtain ⟨v,hv,hc⟩:=h w U0 β0 us hs.n hs.env hs.glob
 refine hc.mono ?_
 rintro e w' ⟨rfl,rfl⟩
 refine ⟨v,r,[],rfl,⟨rfl,rfl⟩,β0,U0,{ hs with n:=rfl,small:=by simp,defers:=rfl,env:=fun t=>?_ }⟩
 show RepV w' β0 U0 w'.heap.size (#[v].getD t undef) ((Abs.look t [(0,r)]).getD (.one .bad))
 cases t with
 | zero=>exact hv
 | succ t=>simp [Abs.look]; exact .bad _
theorem z4w {w:World} {U:Nat->Prop} {v:Value} {l:List UInt8} (h:RepI w U v (.s l)):v=.string ⟨l.toArray⟩:=by cases h; rfl
def baC (l:List UInt8):ByteArray:=⟨l.toArray⟩
def zwp (ys:List V) (m:Mem):Option (Tr (V×Mem)) :=
 match ys,m with
 | [.one (.d (.s l)),.one (.d (.s sub))],[]=>some (.grd (decide (l.length<4294967281)) (.ret (vb (Lib.contains l sub),[])))
 | _,_=>none
def zfa:PF Tryz.prog where
 f:=191
 own:=[]
 tr:=zwp
 ok:=by
  intro ys m T r m' h hT
  unfold zwp at h
  split at h
  . rename_i l sub
    cases h
    have hT':(Tr.grd (decide (l.length<4294967281)) (.ret (vb (Lib.contains l sub),([]:Mem)))).eval=some (r,m'):=hT
    by_cases hn:l.length<4294967281
    case neg=>rw [decide_eq_false hn] at hT'; cases hT'
    rw [decide_eq_true hn] at hT'
    cases hT'
    refine ⟨_,[],zgk _,trivial,ziyb fun w U β us hsz henv hg=>⟨.bool (Lib.contains l sub),.one _ _ (.b _),?_⟩⟩
    have h0:us.getD 0 undef=.string ⟨l.toArray⟩:=z4w (show RepI w U (us.getD 0 undef) (.s l) from (show RepV w β U w.heap.size (us.getD 0 undef) (vs l) from henv 0).toC)
    have h1:us.getD 1 undef=.string ⟨sub.toArray⟩:=z4w (show RepI w U (us.getD 1 undef) (.s sub) from (show RepV w β U w.heap.size (us.getD 1 undef) (vs sub) from henv 1).toC)
    have e:us = #[.string (baC l),.string (baC sub)]:=by
     obtain ⟨us⟩:=us
     match us,hsz with
     | [a,b],_=>have ha:a=_:=h0; have hb:b=_:=h1; rw [ha,hb]; rfl
    rw [e]
    obtain ⟨_,mm,hm⟩:=hg.2 0 (by simp [gints])
    exact Tryz.strings_Contains (baC l) (baC sub) mm w (by simpa [baC,ByteArray.size] using hn) hm
  . cases h
open Go.IntKind renaming wrap -> wW
def zox:List VP1:=[.one (.i .i64)]
def zjv:SP:=⟨1,[(0,.v (.one (.s)))],[]⟩
def zz2 (rNum_stub_fn:(Int×Unit)->Option ((List UInt8)×Unit)):(Int×Unit)->Tr ((List UInt8)×Unit) :=
 fun (a0,_) =>.ite (decide (a0<0)) (.opt ((rNum_stub_fn (wW .i64 ((0:Int)-a0),()))) (fun r0 =>.grd (decide (List.length [(45:UInt8)]+List.length r0.1<=(9223372036854775807:Nat))) (.ret ([(45:UInt8)]++r0.1,())))) (.ite (decide (a0<10)) (.grd (decide (0<=a0/\a0<=wW .i64 (a0+1)/\wW .i64 (a0+1)<=(↑(List.length [(48:UInt8),(49:UInt8),(50:UInt8),(51:UInt8),(52:UInt8),(53:UInt8),(54:UInt8),(55:UInt8),(56:UInt8),(57:UInt8)]):Int))) (
 .ret (List.drop (Int.toNat a0) (List.take (Int.toNat (wW .i64 (a0+1))) [(48:UInt8),(49:UInt8),(50:UInt8),(51:UInt8),(52:UInt8),(53:UInt8),(54:UInt8),(55:UInt8),(56:UInt8),(57:UInt8)]),()))) (.grd (true) (.opt ((rNum_stub_fn (wW .i64 (Int.tdiv a0 (10:Int)),()))) (fun r0 =>.grd (true) (.opt ((rNum_stub_fn (Int.tmod a0 10,()))) (fun r1 =>.grd (decide (List.length r0.1+List.length r1.1<=(9223372036854775807:Nat))) (.ret (r0.1++r1.1,()))))))))
theorem zj1b (g:(Int×Unit)->Option ((List UInt8)×Unit)) (ok:∀ (x:(Int×Unit)) (r:((List UInt8)×Unit)),g x=some r->ACall Tryz.prog 199 (zgr (fun _=>0) zox x).1 [] fun r' m'=>r'=(SP.put zjv r).get 0/\m'=(SP.put zjv r).mem) (x:(Int×Unit)):fnTr Tryz.prog cod [FS.pf (⟨199,zox,zjv,g,ok⟩:FS Tryz.prog),z1s,z1r,ze1b,FS.pf zgn,FS.pf zm8,FS.pf sumOf,FS.pf zh7,FS.pf zvk,FS.pf zwj,FS.pf zwn,FS.pf zk4,FS.pf zpf,FS.pf zwm,FS.pf zpe,FS.pf zwl,FS.pf zky,FS.pf zkz,FS.pf z8b,FS.pf zhm,FS.pf zv2,FS.pf zv4,FS.pf zoz,FS.pf zv3,FS.pf z8a,FS.pf zro,FS.pf zrr,FS.pf zh3,FS.pf zh4,FS.pf zlz,FS.pf ze7,FS.pf zly,FS.pf zl0,FS.pf zve,FS.pf zvi,FS.pf zvg,GS.pf z63,GS.pf zkq,FS.pf zg1,FS.pf zvh,FS.pf swTo,zi7,GS.pf zfx,FS.pf zd0,FS.pf zm0,FS.pf zpp,FS.pf zps,FS.pf zje,FS.pf zjg,FS.pf zy3,GS.pf zqf,GS.pf zpq,GS.pf zf3,FS.pf zpr,FS.pf zpt,FS.pf zkk,FS.pf z4f,FS.pf zwr,zkg,FS.pf zuc,FS.pf zxf,FS.pf zf7,FS.pf zl7,FS.pf zl9,FS.pf zl8,FS.pf zia,tz64,FS.pf zb5,FS.pf zes,FS.pf zf8,FS.pf zhp,z4e,GS.pf ztw,FS.pf z33,FS.pf zfp,FS.pf zii,zih,GS.pf zfs,FS.pf zsv,FS.pf z3c,zpg,GS.pf zk5,FS.pf zo3,FS.pf zv7,FS.pf zo6,FS.pf z8d,GS.pf zgx,GS.pf zva,GS.pf zok,GS.pf zol,GS.pf zom,GS.pf z90,FS.pf z00,FS.pf zej,FS.pf zft,FS.pf z2r,FS.pf zif,FS.pf ze8,FS.pf zey,FS.pf zwc,FS.pf zez,FS.pf freePorts,FS.pf zk1,FS.pf zdw,FS.pf zku,FS.pf znr,FS.pf zr5,FS.pf zsd,FS.pf zg9,FS.pf zzz,FS.pf zz6,FS.pf za8b,FS.pf zbfb,FS.pf zz4,FS.pf zfh,FS.pf zff,zm9,zfa] [] 30 199 zox zjv x=zz2 g x:=by kernel_rfl
def zsc:Nat->Subtype (fun g:(Int×Unit)->Option ((List UInt8)×Unit)=>∀ (x:(Int×Unit)) (r:((List UInt8)×Unit)),g x=some r->ACall Tryz.prog 199 (zgr (fun _=>0) zox x).1 [] fun r' m'=>r'=(SP.put zjv r).get 0/\m'=(SP.put zjv r).mem)
 | 0=>⟨fun _=>none,fun x r h=>by cases h⟩
 | n+1=>⟨fun x=>(zz2 (zsc n).1 x).eval,fun x r h=>zpb (cod:=cod) (Γ:=[FS.pf (⟨199,zox,zjv,(zsc n).1,(zsc n).2⟩:FS Tryz.prog),z1s,z1r,ze1b,FS.pf zgn,FS.pf zm8,FS.pf sumOf,FS.pf zh7,FS.pf zvk,FS.pf zwj,FS.pf zwn,FS.pf zk4,FS.pf zpf,FS.pf zwm,FS.pf zpe,FS.pf zwl,FS.pf zky,FS.pf zkz,FS.pf z8b,FS.pf zhm,FS.pf zv2,FS.pf zv4,FS.pf zoz,FS.pf zv3,FS.pf z8a,FS.pf zro,FS.pf zrr,FS.pf zh3,FS.pf zh4,FS.pf zlz,FS.pf ze7,FS.pf zly,FS.pf zl0,FS.pf zve,FS.pf zvi,FS.pf zvg,GS.pf z63,GS.pf zkq,FS.pf zg1,FS.pf zvh,FS.pf swTo,zi7,GS.pf zfx,FS.pf zd0,FS.pf zm0,FS.pf zpp,FS.pf zps,FS.pf zje,FS.pf zjg,FS.pf zy3,GS.pf zqf,GS.pf zpq,GS.pf zf3,FS.pf zpr,FS.pf zpt,FS.pf zkk,FS.pf z4f,FS.pf zwr,zkg,FS.pf zuc,FS.pf zxf,FS.pf zf7,FS.pf zl7,FS.pf zl9,FS.pf zl8,FS.pf zia,tz64,FS.pf zb5,FS.pf zes,FS.pf zf8,FS.pf zhp,z4e,GS.pf ztw,FS.pf z33,FS.pf zfp,FS.pf zii,zih,GS.pf zfs,FS.pf zsv,FS.pf z3c,zpg,GS.pf zk5,FS.pf zo3,FS.pf zv7,FS.pf zo6,FS.pf z8d,GS.pf zgx,GS.pf zva,GS.pf zok,GS.pf zol,GS.pf zom,GS.pf z90,FS.pf z00,FS.pf zej,FS.pf zft,FS.pf z2r,FS.pf zif,FS.pf ze8,FS.pf zey,FS.pf zwc,FS.pf zez,FS.pf freePorts,FS.pf zk1,FS.pf zdw,FS.pf zku,FS.pf znr,FS.pf zr5,FS.pf zsd,FS.pf zg9,FS.pf zzz,FS.pf zz6,FS.pf za8b,FS.pf zbfb,FS.pf zz4,FS.pf zfh,FS.pf zff,zm9,zfa]) (Λs:=[]) (n:=30) ((congrArg Tr.eval (zj1b _ _ x)).trans h)⟩
def zsb (x:(Int×Unit)):Option ((List UInt8)×Unit):=(zsc 64).1 x
def rNum:FS Tryz.prog:=⟨199,zox,zjv,zsb,(zsc 64).2⟩
def zct:List VP1:=[.one (.s)]
def zbm:SP:=⟨1,[(0,.tup [.one (.st 4 true),.one (.b)])],[]⟩
def zbt (rOptionsOf_stub_fn:((List UInt8)×Unit)->Option zw1):((List UInt8)×Unit)->Tr zw1 :=
 fun (a0,_) =>.ite (decide ((↑(Lib.countByte a0 (0:UInt8)):Int)=(↑(a0.length):Int))) (.ret ([],(true,()))) (.grd (decide ((0:Int)<=(0:Int)/\0<(↑(a0.length):Int))) (.ite (decide ((↑(UInt8.toNat (List.getD a0 (0:Nat) (0:UInt8))):Int)=0)) (.ret ([],(false,()))) (.grd (decide ((0:Int)<=(0:Int)/\0<(↑(a0.length):Int))) (.grd (decide ((0:Int)<=(0:Int)/\0<(↑(a0.length):Int))) (.ite (decide (1<(↑(UInt8.toNat (List.getD a0 (0:Nat) (0:UInt8))):Int))) (.ite (decide ((↑(a0.length):Int)<2)) (.ret ([],(false,()))) (
 .grd (decide ((0:Int)<=(1:Int)/\1<(↑(a0.length):Int))) (.opt ((zab (wW .i64 (↑(UInt8.toNat (List.getD a0 (1:Nat) (0:UInt8))):Int),(2,((↑(a0.length):Int),()))))) (fun r0 =>.ite (!r0.1) (.ret ([],(false,()))) (.grd (decide ((0:Int)<=(1:Int)/\1<(↑(a0.length):Int))) (.grd (decide ((0:Int)<=(2:Int)/\2<=wW .i64 (↑(UInt8.toNat (List.getD a0 (1:Nat) (0:UInt8))):Int)/\wW .i64 (↑(UInt8.toNat (List.getD a0 (1:Nat) (0:UInt8))):Int)<=(↑(a0.length):Int))) (
 .grd (decide (0<=wW .i64 (↑(UInt8.toNat (List.getD a0 (1:Nat) (0:UInt8))):Int)/\wW .i64 (↑(UInt8.toNat (List.getD a0 (1:Nat) (0:UInt8))):Int)<=(↑(a0.length):Int)/\(↑(a0.length):Int)<=(↑(a0.length):Int))) (.opt ((rOptionsOf_stub_fn (List.drop (Int.toNat (wW .i64 (↑(UInt8.toNat (List.getD a0 (1:Nat) (0:UInt8))):Int))) (List.take (Int.toNat (↑(a0.length):Int)) a0),()))) (fun r1 =>.ite (!r1.2.1) (.ret ([],(false,()))) (
 .grd (decide ((List.length [TOption.mk (wW .i64 (↑(UInt8.toNat (List.getD a0 (0:Nat) (0:UInt8))):Int)) (List.drop (2:Nat) (List.take (Int.toNat (wW .i64 (↑(UInt8.toNat (List.getD a0 (1:Nat) (0:UInt8))):Int))) a0))]+List.length r1.1)*(24:Nat)<=(140737488355328:Nat)/\List.length [TOption.mk (wW .i64 (↑(UInt8.toNat (List.getD a0 (0:Nat) (0:UInt8))):Int)) (List.drop (2:Nat) (List.take (Int.toNat (wW .i64 (↑(UInt8.toNat (List.getD a0 (1:Nat) (0:UInt8))):Int))) a0))]+List.length r1.1<=(9223372036854775807:Nat))) (
 .ret ([TOption.mk (wW .i64 (↑(UInt8.toNat (List.getD a0 (0:Nat) (0:UInt8))):Int)) (List.drop (2:Nat) (List.take (Int.toNat (wW .i64 (↑(UInt8.toNat (List.getD a0 (1:Nat) (0:UInt8))):Int))) a0))]++r1.1,(true,()))))))))))))) (.grd (decide ((0:Int)<=(1:Int)/\1<=(↑(a0.length):Int)/\(↑(a0.length):Int)<=(↑(a0.length):Int))) (.opt ((rOptionsOf_stub_fn (List.drop (1:Nat) (List.take (Int.toNat (↑(a0.length):Int)) a0),()))) (fun r0 =>.ite (!r0.2.1) (.ret ([],(false,()))) (
 .grd (decide ((List.length [TOption.mk (wW .i64 (↑(UInt8.toNat (List.getD a0 (0:Nat) (0:UInt8))):Int)) []]+List.length r0.1)*(24:Nat)<=(140737488355328:Nat)/\List.length [TOption.mk (wW .i64 (↑(UInt8.toNat (List.getD a0 (0:Nat) (0:UInt8))):Int)) []]+List.length r0.1<=(9223372036854775807:Nat))) (.ret ([TOption.mk (wW .i64 (↑(UInt8.toNat (List.getD a0 (0:Nat) (0:UInt8))):Int)) []]++r0.1,(true,()))))))))))))
theorem zxo (g:((List UInt8)×Unit)->Option zw1) (ok:∀ (x:((List UInt8)×Unit)) (r:zw1),g x=some r->ACall Tryz.prog 97 (zgr (fun _=>0) zct x).1 [] fun r' m'=>r'=(SP.put zbm r).get 0/\m'=(SP.put zbm r).mem) (x:((List UInt8)×Unit)):fnTr Tryz.prog cod [FS.pf (⟨97,zct,zbm,g,ok⟩:FS Tryz.prog),z1s,z1r,ze1b,FS.pf zgn,FS.pf zm8,FS.pf sumOf,FS.pf zh7,FS.pf zvk,FS.pf zwj,FS.pf zwn,FS.pf zk4,FS.pf zpf,FS.pf zwm,FS.pf zpe,FS.pf zwl,FS.pf zky,FS.pf zkz,FS.pf z8b,FS.pf zhm,FS.pf zv2,FS.pf zv4,FS.pf zoz,FS.pf zv3,FS.pf z8a,FS.pf zro,FS.pf zrr,FS.pf zh3,FS.pf zh4,FS.pf zlz,FS.pf ze7,FS.pf zly,FS.pf zl0,FS.pf zve,FS.pf zvi,FS.pf zvg,GS.pf z63,GS.pf zkq,FS.pf zg1,FS.pf zvh,FS.pf swTo,zi7,GS.pf zfx,FS.pf zd0,FS.pf zm0,FS.pf zpp,FS.pf zps,FS.pf zje,FS.pf zjg,FS.pf zy3,GS.pf zqf,GS.pf zpq,GS.pf zf3,FS.pf zpr,FS.pf zpt,FS.pf zkk,FS.pf z4f,FS.pf zwr,zkg,FS.pf zuc,FS.pf zxf,FS.pf zf7,FS.pf zl7,FS.pf zl9,FS.pf zl8,FS.pf zia,tz64,FS.pf zb5,FS.pf zes,FS.pf zf8,FS.pf zhp,z4e,GS.pf ztw,FS.pf z33,FS.pf zfp,FS.pf zii,zih,GS.pf zfs,FS.pf zsv,FS.pf z3c,zpg,GS.pf zk5,FS.pf zo3,FS.pf zv7,FS.pf zo6,FS.pf z8d,GS.pf zgx,GS.pf zva,GS.pf zok,GS.pf zol,GS.pf zom,GS.pf z90,FS.pf z00,FS.pf zej,FS.pf zft,FS.pf z2r,FS.pf zif,FS.pf ze8,FS.pf zey,FS.pf zwc,FS.pf zez,FS.pf freePorts,FS.pf zk1,FS.pf zdw,FS.pf zku,FS.pf znr,FS.pf zr5,FS.pf zsd,FS.pf zg9,FS.pf zzz,FS.pf zz6,FS.pf za8b,FS.pf zbfb,FS.pf zz4,FS.pf zfh,FS.pf zff,zm9,zfa,FS.pf rNum] [] 30 97 zct zbm x=zbt g x:=by kernel_rfl
def zbn:Nat->Subtype (fun g:((List UInt8)×Unit)->Option zw1=>∀ (x:((List UInt8)×Unit)) (r:zw1),g x=some r->ACall Tryz.prog 97 (zgr (fun _=>0) zct x).1 [] fun r' m'=>r'=(SP.put zbm r).get 0/\m'=(SP.put zbm r).mem)
 | 0=>⟨fun _=>none,fun x r h=>by cases h⟩
 | n+1=>⟨fun x=>(zbt (zbn n).1 x).eval,fun x r h=>zpb (cod:=cod) (Γ:=[FS.pf (⟨97,zct,zbm,(zbn n).1,(zbn n).2⟩:FS Tryz.prog),z1s,z1r,ze1b,FS.pf zgn,FS.pf zm8,FS.pf sumOf,FS.pf zh7,FS.pf zvk,FS.pf zwj,FS.pf zwn,FS.pf zk4,FS.pf zpf,FS.pf zwm,FS.pf zpe,FS.pf zwl,FS.pf zky,FS.pf zkz,FS.pf z8b,FS.pf zhm,FS.pf zv2,FS.pf zv4,FS.pf zoz,FS.pf zv3,FS.pf z8a,FS.pf zro,FS.pf zrr,FS.pf zh3,FS.pf zh4,FS.pf zlz,FS.pf ze7,FS.pf zly,FS.pf zl0,FS.pf zve,FS.pf zvi,FS.pf zvg,GS.pf z63,GS.pf zkq,FS.pf zg1,FS.pf zvh,FS.pf swTo,zi7,GS.pf zfx,FS.pf zd0,FS.pf zm0,FS.pf zpp,FS.pf zps,FS.pf zje,FS.pf zjg,FS.pf zy3,GS.pf zqf,GS.pf zpq,GS.pf zf3,FS.pf zpr,FS.pf zpt,FS.pf zkk,FS.pf z4f,FS.pf zwr,zkg,FS.pf zuc,FS.pf zxf,FS.pf zf7,FS.pf zl7,FS.pf zl9,FS.pf zl8,FS.pf zia,tz64,FS.pf zb5,FS.pf zes,FS.pf zf8,FS.pf zhp,z4e,GS.pf ztw,FS.pf z33,FS.pf zfp,FS.pf zii,zih,GS.pf zfs,FS.pf zsv,FS.pf z3c,zpg,GS.pf zk5,FS.pf zo3,FS.pf zv7,FS.pf zo6,FS.pf z8d,GS.pf zgx,GS.pf zva,GS.pf zok,GS.pf zol,GS.pf zom,GS.pf z90,FS.pf z00,FS.pf zej,FS.pf zft,FS.pf z2r,FS.pf zif,FS.pf ze8,FS.pf zey,FS.pf zwc,FS.pf zez,FS.pf freePorts,FS.pf zk1,FS.pf zdw,FS.pf zku,FS.pf znr,FS.pf zr5,FS.pf zsd,FS.pf zg9,FS.pf zzz,FS.pf zz6,FS.pf za8b,FS.pf zbfb,FS.pf zz4,FS.pf zfh,FS.pf zff,zm9,zfa,FS.pf rNum]) (Λs:=[]) (n:=30) ((congrArg Tr.eval (zxo _ _ x)).trans h)⟩
def zid (x:((List UInt8)×Unit)):Option zw1:=(zbn 64).1 x
def z7o:FS Tryz.prog:=⟨97,zct,zbm,zid,(zbn 64).2⟩
def zbab:List VP1:=[.one (.i .u32),.one (.i .u32),.one (.i .i64),.one (.i .i64)]
def za9b:SP:=⟨1,[(0,.v (.one (.s)))],[]⟩
def zr6:ty3_->Tr ((List UInt8)×Unit) :=
 fun (a0,a1,a2,a3,_) =>.opt ((zb8 (a0,()))) (fun r0 =>.opt ((zb8 (a1,()))) (fun r1 =>.grd (decide (List.length r0.1+List.length r1.1<=(9223372036854775807:Nat))) (.grd (true) (.grd (true) (.opt ((zas (Int.tmod (wW .i64 (Int.tmod a2 (256:Int)+(256:Int))) 256,()))) (fun r2 =>.grd (decide (List.length (r0.1++r1.1)+List.length r2.1<=(9223372036854775807:Nat))) (.grd (true) (.grd (true) (.opt ((zas (Int.tmod (wW .i64 (Int.tmod a3 (65536:Int)+(65536:Int))) 65536,()))) (fun r3 =>
 .grd (decide (List.length (r0.1++r1.1++r2.1)+List.length r3.1<=(9223372036854775807:Nat))) (.ret (r0.1++r1.1++r2.1++r3.1,()))))))))))))
noncomputable def gm86:List (PF Go.Proofs.Tryz.prog):=gm85++[FS.pf zff,zm9,zfa,FS.pf rNum,FS.pf z7o]
def zr7 (x:ty3_):Option ((List UInt8)×Unit):=(zr6 x).eval
noncomputable def zn9b:FS Tryz.prog:=mFS gm86 [] 98 zbab za9b zr6 fun x=>by kernel_rfl
def zr9:List VP1:=[.one (.s),.one (.i .u32),.one (.i .u32)]
def zr8:SP:=⟨1,[(0,.tup [.agg [.i .i64,.i .i64,.i .u32,.i .u32,.i .i64,.i .i64,.i .i64,.st 4 true,.s],.one (.i .i64)])],[]⟩
def zds:ty5_->Tr zgfb :=
 fun (a0,a1,a2,_) =>.ite (decide ((↑(a0.length):Int)<20)) (.ret (0,(0,(0,(0,(0,(0,(0,([],([],(3,()))))))))))) (.grd (decide ((0:Int)<=(12:Int)/\12<(↑(a0.length):Int))) (.grd (true) (.ite (decide ((↑(a0.length):Int)<wW .i64 (wW .i64 (Int.tdiv (wW .i64 (↑(UInt8.toNat (List.getD a0 (12:Nat) (0:UInt8))):Int)) (16:Int))*(4:Int)))) (.ret (0,(0,(0,(0,(0,(0,(0,([],([],(3,()))))))))))) (.grd (decide ((0:Int)<=(12:Int)/\12<(↑(a0.length):Int))) (.grd (true) (
 .ite (decide (wW .i64 (wW .i64 (Int.tdiv (wW .i64 (↑(UInt8.toNat (List.getD a0 (12:Nat) (0:UInt8))):Int)) (16:Int))*(4:Int))<20)) (.ret (0,(0,(0,(0,(0,(0,(0,([],([],(4,()))))))))))) (.grd (decide ((0:Int)<=(12:Int)/\12<(↑(a0.length):Int))) (.ite (!decide (wW .i64 (↑(UInt8.toNat (List.getD a0 (12:Nat) (0:UInt8))):Int)=wW .i64 ((4:Int)*wW .i64 (wW .i64 (Int.tdiv (wW .i64 (↑(UInt8.toNat (List.getD a0 (12:Nat) (0:UInt8))):Int)) (16:Int))*(4:Int))))) (.ret (0,(0,(0,(0,(0,(0,(0,([],([],(4,()))))))))))) (
 .ite (decide (wW .i64 ((65455:Int)+wW .i64 (wW .i64 (Int.tdiv (wW .i64 (↑(UInt8.toNat (List.getD a0 (12:Nat) (0:UInt8))):Int)) (16:Int))*(4:Int)))<(↑(a0.length):Int))) (.ret (0,(0,(0,(0,(0,(0,(0,([],([],(2,()))))))))))) (.grd (decide ((0:Int)<=(20:Int)/\20<=wW .i64 (wW .i64 (Int.tdiv (wW .i64 (↑(UInt8.toNat (List.getD a0 (12:Nat) (0:UInt8))):Int)) (16:Int))*(4:Int))/\wW .i64 (wW .i64 (Int.tdiv (wW .i64 (↑(UInt8.toNat (List.getD a0 (12:Nat) (0:UInt8))):Int)) (16:Int))*(4:Int))<=(↑(a0.length):Int))) (
 .opt ((zid (List.drop (20:Nat) (List.take (Int.toNat (wW .i64 (wW .i64 (Int.tdiv (wW .i64 (↑(UInt8.toNat (List.getD a0 (12:Nat) (0:UInt8))):Int)) (16:Int))*(4:Int)))) a0),()))) (fun r0 =>.ite (!r0.2.1) (.ret (0,(0,(0,(0,(0,(0,(0,([],([],(4,()))))))))))) (.opt ((zr7 (a1,(a2,(6,((↑(a0.length):Int),())))))) (fun r1 =>.opt ((zec (0,(r1.1,())))) (fun r2 =>.opt ((zec (r2.1,(a0,())))) (fun r3 =>.ite (!decide (r3.1=65535)) (.ret (0,(0,(0,(0,(0,(0,(0,([],([],(5,()))))))))))) (.opt ((zaf (a0,(0,())))) (fun r4 =>.opt ((zaf (a0,(2,())))) (fun r5 =>
 .opt ((zg8 (a0,(4,())))) (fun r6 =>.opt ((zg8 (a0,(8,())))) (fun r7 =>.grd (decide ((0:Int)<=(13:Int)/\13<(↑(a0.length):Int))) (.opt ((zaf (a0,(14,())))) (fun r8 =>.opt ((zaf (a0,(18,())))) (fun r9 =>.grd (decide (0<=wW .i64 (wW .i64 (Int.tdiv (wW .i64 (↑(UInt8.toNat (List.getD a0 (12:Nat) (0:UInt8))):Int)) (16:Int))*(4:Int))/\wW .i64 (wW .i64 (Int.tdiv (wW .i64 (↑(UInt8.toNat (List.getD a0 (12:Nat) (0:UInt8))):Int)) (16:Int))*(4:Int))<=(↑(a0.length):Int)/\(↑(a0.length):Int)<=(↑(a0.length):Int))) (
 .ret (r4.1,(r5.1,(r6.1,(r7.1,(wW .i64 (↑(UInt8.toNat (List.getD a0 (13:Nat) (0:UInt8))):Int),(r8.1,(r9.1,(r0.1,(List.drop (Int.toNat (wW .i64 (wW .i64 (Int.tdiv (wW .i64 (↑(UInt8.toNat (List.getD a0 (12:Nat) (0:UInt8))):Int)) (16:Int))*(4:Int)))) (List.take (Int.toNat (↑(a0.length):Int)) a0),(0,())))))))))))))))))))))))))))))))))))
noncomputable def gm87:List (PF Go.Proofs.Tryz.prog):=gm86++[FS.pf zn9b]
def zdf (x:ty5_):Option zgfb:=(zds x).eval
noncomputable def zzx:FS Tryz.prog:=mFS gm87 [] 52 zr9 zr8 zds fun x=>by kernel_rfl
def zui:List VP1:=[.one (.s),.one (.i .u32),.one (.i .u32)]
def zuh:SP:=⟨1,[(0,.tup [.agg [.i .i64,.i .i64,.s],.one (.i .i64)])],[]⟩
def zix:ty5_->Tr ty6_ :=
 fun (a0,a1,a2,_) =>.ite (decide ((↑(a0.length):Int)<8)) (.ret (0,(0,([],(3,()))))) (.opt ((zaf (a0,(4,())))) (fun r0 =>.ite (decide ((↑(a0.length):Int)<r0.1)) (.ret (0,(0,([],(3,()))))) (.opt ((zaf (a0,(4,())))) (fun r1 =>.opt ((zab (r1.1,(8,(65515,()))))) (fun r2 =>.ite (!r2.1) (.ret (0,(0,([],(4,()))))) (.opt ((zaf (a0,(6,())))) (fun r3 =>.ite (decide (0<r3.1)) (.opt ((zr7 (a1,(a2,(17,(r1.1,())))))) (fun r4 =>.grd (decide ((0:Int)<=(0:Int)/\0<=r1.1/\r1.1<=(↑(a0.length):Int))) (
 .grd (decide (List.length r4.1+List.length (List.drop (0:Nat) (List.take (Int.toNat r1.1) a0))<=(9223372036854775807:Nat))) (.opt ((zec (0,(r4.1++List.drop (0:Nat) (List.take (Int.toNat r1.1) a0),())))) (fun r5 =>.ite (!decide (r5.1=65535)) (.ret (0,(0,([],(5,()))))) (.opt ((zaf (a0,(0,())))) (fun r6 =>.opt ((zaf (a0,(2,())))) (fun r7 =>.grd (decide ((0:Int)<=(8:Int)/\8<=r1.1/\r1.1<=(↑(a0.length):Int))) (.ret (r6.1,(r7.1,(List.drop (8:Nat) (List.take (Int.toNat r1.1) a0),(0,()))))))))))))) (.opt ((zaf (a0,(0,())))) (fun r4 =>
 .opt ((zaf (a0,(2,())))) (fun r5 =>.grd (decide ((0:Int)<=(8:Int)/\8<=r1.1/\r1.1<=(↑(a0.length):Int))) (.ret (r4.1,(r5.1,(List.drop (8:Nat) (List.take (Int.toNat r1.1) a0),(0,())))))))))))))))
noncomputable def gm88:List (PF Go.Proofs.Tryz.prog):=gm87++[FS.pf zzx]
def zgp (x:ty5_):Option ty6_:=(zix x).eval
noncomputable def z2s:FS Tryz.prog:=mFS gm88 [] 53 zui zuh zix fun x=>by kernel_rfl
def z7s:List VP1:=[.one (.s)]
def z7r:SP:=⟨1,[(0,.tup [.agg [.i .u32,.i .u32,.i .i64,.i .i64,.i .i64],.one (.i .i64)])],[]⟩
def zp3:((List UInt8)×Unit)->Tr z14 :=
 fun (a0,_) =>.opt ((zd4 (a0,()))) (fun r0 =>.ite (!decide ((y11 r0)=0)) (.ret (0,(0,(0,(0,(0,(y11 r0,()))))))) (.ite (!decide ((y6 r0)=6)) (.ite (!decide ((y6 r0)=17)) (.ret (0,(0,(0,(0,(0,(7,()))))))) (.ite (y3 r0) (.ret (0,(0,(0,(0,(0,(9,()))))))) (.ite (decide (0<(y4 r0))) (.ret (0,(0,(0,(0,(0,(9,()))))))) (.ite (decide ((y6 r0)=6)) (.opt ((zdf (y10 r0,(y7 r0,(y8 r0,()))))) (fun r1 =>.ite (!decide ((y9 r1)=0)) (.ret (0,(0,(0,(0,(0,(y9 r1,()))))))) (.opt ((zaf (y10 r0,(0,())))) (fun r2 =>.opt ((zaf (y10 r0,(2,())))) (fun r3 =>
 .ret (y7 r0,(y8 r0,(y6 r0,(r2.1,(r3.1,(0,()))))))))))) (.opt ((zgp (y10 r0,(y7 r0,(y8 r0,()))))) (fun r1 =>.ite (!decide ((y3 r1)=0)) (.ret (0,(0,(0,(0,(0,(y3 r1,()))))))) (.opt ((zaf (y10 r0,(0,())))) (fun r2 =>.opt ((zaf (y10 r0,(2,())))) (fun r3 =>.ret (y7 r0,(y8 r0,(y6 r0,(r2.1,(r3.1,(0,()))))))))))))))) (.ite (y3 r0) (.ret (0,(0,(0,(0,(0,(9,()))))))) (.ite (decide (0<(y4 r0))) (.ret (0,(0,(0,(0,(0,(9,()))))))) (.ite (decide ((y6 r0)=6)) (.opt ((zdf (y10 r0,(y7 r0,(y8 r0,()))))) (fun r1 =>.ite (!decide ((y9 r1)=0)) (
 .ret (0,(0,(0,(0,(0,(y9 r1,()))))))) (.opt ((zaf (y10 r0,(0,())))) (fun r2 =>.opt ((zaf (y10 r0,(2,())))) (fun r3 =>.ret (y7 r0,(y8 r0,(y6 r0,(r2.1,(r3.1,(0,()))))))))))) (.opt ((zgp (y10 r0,(y7 r0,(y8 r0,()))))) (fun r1 =>.ite (!decide ((y3 r1)=0)) (.ret (0,(0,(0,(0,(0,(y3 r1,()))))))) (.opt ((zaf (y10 r0,(0,())))) (fun r2 =>.opt ((zaf (y10 r0,(2,())))) (fun r3 =>.ret (y7 r0,(y8 r0,(y6 r0,(r2.1,(r3.1,(0,()))))))))))))))))
noncomputable def gm89:List (PF Go.Proofs.Tryz.prog):=gm88++[FS.pf z2s]
def zoy (x:((List UInt8)×Unit)):Option z14:=(zp3 x).eval
noncomputable def zj2b:FS Tryz.prog:=mFS gm89 [] 22 z7s z7r zp3 fun x=>by kernel_rfl
def z1d:LS:=⟨4,[],⟨26,[(13,.v (.one (.i .i64))),(1,.v (.one (.st 10 false))),(0,.v (.one (.st 10 false))),(12,.v (.one (.i .i64)))],[]⟩,[⟨none,[],⟨26,[(4,.v (.one (.b)))],[]⟩⟩,⟨some 0,[],⟨26,[],[]⟩⟩],[]⟩
abbrev zmlb:Type:=(Int×((List TRule)×((List TRule)×(Int×Unit))))
def zj9:zmlb->Tr (zmlb⊕((Bool×Unit)⊕Unit)) :=
 fun (a0,a1,a2,a3,_) =>.ite (decide (a0<a3)) (.grd (decide (0<=a0)) (.opt (a2[Int.toNat a0]?) (fun r0 =>.grd (decide (0<=a0)) (.opt (a1[Int.toNat a0]?) (fun r1 =>.ite (!(decide (r0.fromAddr=r1.fromAddr)&&(decide (r0.fromLong=r1.fromLong)&&true)&&(decide (r0.toAddr=r1.toAddr)&&(decide (r0.toLong=r1.toLong)&&true)&&(decide (r0.proto=r1.proto)&&(decide (r0.fromLow=r1.fromLow)&&(decide (r0.fromHigh=r1.fromHigh)&&(decide (r0.toLow=r1.toLow)&&(decide (r0.toHigh=r1.toHigh)&&(r0.pass==r1.pass&&true))))))))) (
 .ret (Sum.inr (Sum.inl (false,())))) (.ret (Sum.inl (wW .i64 (a0+1),(a1,(a2,(a3,()))))))))))) (.ret (Sum.inr (Sum.inr ())))
def zka:=lpT 170004 zj9
def zdmb:List VP1:=[.one (.st 10 false),.one (.st 10 false)]
def zdlb:SP:=⟨1,[(0,.v (.one (.b)))],[]⟩
abbrev zmkb:Type:=((List TRule)×((List TRule)×Unit))
def ztn:zmkb->Tr (Bool×Unit) :=
 fun (a0,a1,_) =>.ite (!decide ((↑(a0.length):Int)=(↑(a1.length):Int))) (.ret (false,())) (.opt ((zka (0,(a1,(a0,((↑(a0.length):Int),())))))) (fun r0 =>.sum (r0) (fun r1 =>.ret (r1.1,())) (fun r1 =>.ret (true,()))))
noncomputable def gm90:List (PF Go.Proofs.Tryz.prog):=gm89++[FS.pf zj2b]
def z1c (x:zmkb):Option (Bool×Unit):=(ztn x).eval
noncomputable def zo0b:FS Tryz.prog:=mFS gm90 [(17,z1d)] 17 zdmb zdlb ztn fun x=>by kernel_rfl
def zyc:LS:=⟨4,[],⟨26,[(13,.v (.one (.i .i64))),(1,.v (.one (.st 19 false))),(0,.v (.one (.st 19 false))),(12,.v (.one (.i .i64)))],[]⟩,[⟨none,[],⟨26,[(4,.v (.one (.b)))],[]⟩⟩,⟨some 0,[],⟨26,[],[]⟩⟩],[]⟩
abbrev zmjb:Type:=(Int×((List TMeter)×((List TMeter)×(Int×Unit))))
def zi3:zmjb->Tr (zmjb⊕((Bool×Unit)⊕Unit)) :=
 fun (a0,a1,a2,a3,_) =>.ite (decide (a0<a3)) (.grd (decide (0<=a0)) (.opt (a2[Int.toNat a0]?) (fun r0 =>.grd (decide (0<=a0)) (.opt (a1[Int.toNat a0]?) (fun r1 =>.ite (!(decide (r0.addr=r1.addr)&&(decide (r0.rate=r1.rate)&&(decide (r0.most=r1.most)&&(decide (r0.has=r1.has)&&(decide (r0.at'=r1.at')&&true)))&&true))) (.ret (Sum.inr (Sum.inl (false,())))) (.ret (Sum.inl (wW .i64 (a0+1),(a1,(a2,(a3,()))))))))))) (.ret (Sum.inr (Sum.inr ())))
def zi4:=lpT 180004 zi3
def z8r:List VP1:=[.one (.st 19 false),.one (.st 19 false)]
def z8q:SP:=⟨1,[(0,.v (.one (.b)))],[]⟩
abbrev zmib:Type:=((List TMeter)×((List TMeter)×Unit))
def zqc:zmib->Tr (Bool×Unit) :=
 fun (a0,a1,_) =>.ite (!decide ((↑(a0.length):Int)=(↑(a1.length):Int))) (.ret (false,())) (.opt ((zi4 (0,(a1,(a0,((↑(a0.length):Int),())))))) (fun r0 =>.sum (r0) (fun r1 =>.ret (r1.1,())) (fun r1 =>.ret (true,()))))
noncomputable def gm91:List (PF Go.Proofs.Tryz.prog):=gm90++[FS.pf zo0b]
def zwa (x:zmib):Option (Bool×Unit):=(zqc x).eval
noncomputable def zkvb:FS Tryz.prog:=mFS gm91 [(18,zyc)] 18 z8r z8q zqc fun x=>by kernel_rfl
def z1b:LS:=⟨4,[],⟨26,[(13,.v (.one (.i .i64))),(1,.v (.one (.st 16 false))),(0,.v (.one (.st 16 false))),(12,.v (.one (.i .i64)))],[]⟩,[⟨none,[],⟨26,[(4,.v (.one (.b)))],[]⟩⟩,⟨some 0,[],⟨26,[],[]⟩⟩],[]⟩
def zj7:z6q->Tr (z6q⊕((Bool×Unit)⊕Unit)) :=
 fun (a0,a1,a2,a3,_) =>.ite (decide (a0<a3)) (.grd (decide (0<=a0)) (.opt (a2[Int.toNat a0]?) (fun r0 =>.grd (decide (0<=a0)) (.opt (a1[Int.toNat a0]?) (fun r1 =>.ite (!(decide (r0.from'=r1.from')&&(decide (r0.to=r1.to)&&(decide (r0.fromPort=r1.fromPort)&&(decide (r0.toPort=r1.toPort)&&true)))&&(decide (r0.state=r1.state)&&(decide (r0.over=r1.over)&&(decide (r0.at'=r1.at')&&true))))) (.ret (Sum.inr (Sum.inl (false,())))) (.ret (Sum.inl (wW .i64 (a0+1),(a1,(a2,(a3,()))))))))))) (.ret (Sum.inr (Sum.inr ())))
def zj8:=lpT 190004 zj7
def zdkb:List VP1:=[.one (.st 16 false),.one (.st 16 false)]
def zdjb:SP:=⟨1,[(0,.v (.one (.b)))],[]⟩
abbrev zmhb:Type:=((List TTalk)×((List TTalk)×Unit))
def ztm:zmhb->Tr (Bool×Unit) :=
 fun (a0,a1,_) =>.ite (!decide ((↑(a0.length):Int)=(↑(a1.length):Int))) (.ret (false,())) (.opt ((zj8 (0,(a1,(a0,((↑(a0.length):Int),())))))) (fun r0 =>.sum (r0) (fun r1 =>.ret (r1.1,())) (fun r1 =>.ret (true,()))))
noncomputable def gm92:List (PF Go.Proofs.Tryz.prog):=gm91++[FS.pf zkvb]
def z1a (x:zmhb):Option (Bool×Unit):=(ztm x).eval
noncomputable def zozb:FS Tryz.prog:=mFS gm92 [(19,z1b)] 19 zdkb zdjb ztm fun x=>by kernel_rfl
def zz1:List VP1:=[.agg [.i .u32,.i .i64,.i .i64,.i .i64,.i .i64,.i .i64,.st 10 false,.b],.agg [.i .u32,.i .i64,.i .i64,.i .i64,.i .i64,.i .i64,.st 10 false,.b]]
def zz0:SP:=⟨1,[(0,.v (.one (.b)))],[]⟩
abbrev zmgb:Type:=(Int×(Int×(Int×(Int×(Int×(Int×((List TRule)×(Bool×(Int×(Int×(Int×(Int×(Int×(Int×((List TRule)×(Bool×Unit))))))))))))))))
def zlg:zmgb->Tr (Bool×Unit) :=
 fun (a0,a1,a2,a3,a4,a5,a6,a7,a8,a9,a10,a11,a12,a13,a14,a15,_) =>.ite (decide (a0=a8)) (.ite (decide (a1=a9)) (.ite (decide (a2=a10)) (.ite (decide (a3=a11)) (.ite (decide (a4=a12)) (.ite (decide (a5=a13)) (.ite (a7==a15) (.opt ((z1c (a6,(a14,())))) (fun r0 =>.ret (r0.1,()))) (.ret (false,()))) (.ret (false,()))) (.ret (false,()))) (.ret (false,()))) (.ret (false,()))) (.ret (false,()))) (.ret (false,()))
noncomputable def gm93:List (PF Go.Proofs.Tryz.prog):=gm92++[FS.pf zozb]
def zed (x:zmgb):Option (Bool×Unit):=(zlg x).eval
noncomputable def zbeb:FS Tryz.prog:=mFS gm93 [] 24 zz1 zz0 zlg fun x=>by kernel_rfl
def zxj:List VP1:=[.agg [.i .u32,.i .i64,.i .i64,.i .i64,.i .i64,.i .i64,.st 10 false,.b,.st 19 false,.st 16 false,.i .i64,.i .i64,.i .u64,.i .i64,.i .u64,.st 17 false],.agg [.i .u32,.i .i64,.i .i64,.i .i64,.i .i64,.i .i64,.st 10 false,.b,.st 19 false,.st 16 false,.i .i64,.i .i64,.i .u64,.i .i64,.i .u64,.st 17 false]]
def zxi:SP:=⟨1,[(0,.v (.one (.b)))],[]⟩
abbrev zmfb:Type:=(Int×(Int×(Int×(Int×(Int×(Int×((List TRule)×(Bool×((List TMeter)×((List TTalk)×(Int×(Int×(Int×(Int×(Int×((List TMap)×(Int×(Int×(Int×(Int×(Int×(Int×((List TRule)×(Bool×((List TMeter)×((List TTalk)×(Int×(Int×(Int×(Int×(Int×((List TMap)×Unit))))))))))))))))))))))))))))))))
def zjs:zmfb->Tr (Bool×Unit) :=
 fun (a0,a1,a2,a3,a4,a5,a6,a7,a8,a9,a10,a11,a12,a13,a14,a15,a16,a17,a18,a19,a20,a21,a22,a23,a24,a25,a26,a27,a28,a29,a30,a31,_) =>.opt ((zed (a0,(a1,(a2,(a3,(a4,(a5,(a6,(a7,(a16,(a17,(a18,(a19,(a20,(a21,(a22,(a23,())))))))))))))))))) (fun r0 =>.ite (r0.1) (.opt ((zwa (a8,(a24,())))) (fun r1 =>.ite (r1.1) (.opt ((z1a (a9,(a25,())))) (fun r2 =>.ite (r2.1) (.opt ((z1e (a10,(a11,(a12,(a13,(a14,(a15,(a26,(a27,(a28,(a29,(a30,(a31,())))))))))))))) (fun r3 =>.ret (r3.1,()))) (.ret (false,())))) (.ret (false,())))) (.ret (false,())))
noncomputable def gm94:List (PF Go.Proofs.Tryz.prog):=gm93++[FS.pf zbeb]
def zic (x:zmfb):Option (Bool×Unit):=(zjs x).eval
noncomputable def z7l:FS Tryz.prog:=mFS gm94 [] 21 zxj zxi zjs fun x=>by kernel_rfl
def zsj:List VP1:=[.agg [.i .i64,.i .i64,.i .i64,.i .i64]]
def zsi:SP:=⟨1,[(0,.v (.one (.i .i64)))],[]⟩
def zhb:ty3_->Tr (Int×Unit) :=
 fun (a0,a1,a2,a3,_) =>.opt ((zab (a0,(0,(1000000,()))))) (fun r0 =>.ite (!r0.1) (.ret (1,())) (.opt ((zab (a1,(1,(1000000000,()))))) (fun r1 =>.ite (!r1.1) (.ret (1,())) (.opt ((zab (a2,(0,(a1,()))))) (fun r2 =>.ite (!r2.1) (.ret (4,())) (.opt ((zab (a3,(0,(1099511627776,()))))) (fun r3 =>.ite (!r3.1) (.ret (4,())) (.ret (0,())))))))))
noncomputable def gm95:List (PF Go.Proofs.Tryz.prog):=gm94++[FS.pf z7l]
def zfk (x:ty3_):Option (Int×Unit):=(zhb x).eval
noncomputable def zz7:FS Tryz.prog:=mFS gm95 [] 57 zsj zsi zhb fun x=>by kernel_rfl
def zup:LS:=⟨3,[],⟨23,[(8,.v (.one (.i .i64))),(0,.v (.one (.i .u32))),(5,.v (.one (.s))),(7,.v (.one (.i .i64)))],[]⟩,[⟨some 0,[],⟨23,[(5,.v (.one (.s)))],[]⟩⟩],[]⟩
def zcu:ty6_->Tr (ty6_⊕((List UInt8)×Unit)) :=
 fun (a0,a1,a2,a3,_) =>.ite (decide (a0<a3)) (.grd (decide (0<=wW .i64 ((31:Int)-a0))) (.grd (decide (wW .i64 ((1:Int)*(2:Int)^min (Int.toNat (wW .i64 ((31:Int)-a0))) (64:Nat))≠0)) (.grd (true) (.opt ((zsb (Int.tmod (wW .i64 (Int.tdiv (wW .i64 a1) (wW .i64 ((1:Int)*(2:Int)^min (Int.toNat (wW .i64 ((31:Int)-a0))) (64:Nat))))) 2,()))) (fun r0 =>.grd (decide (a2.length+List.length r0.1<=(9223372036854775807:Nat))) (.ret (Sum.inl (wW .i64 (a0+1),(a1,(a2++r0.1,(a3,()))))))))))) (.ret (Sum.inr (a2,())))
def zhc:=lpT 1920003 zcu
def z7v:List VP1:=[.one (.i .u32),.one (.i .i64)]
def z7u:SP:=⟨1,[(0,.v (.one (.s)))],[]⟩
def zp4:(Int×(Int×Unit))->Tr ((List UInt8)×Unit) :=
 fun (a0,a1,_) =>.opt ((zhc (0,(a0,([],(a1,())))))) (fun r0 =>.ret (r0.1,()))
noncomputable def gm96:List (PF Go.Proofs.Tryz.prog):=gm95++[FS.pf zz7]
def zvr (x:(Int×(Int×Unit))):Option ((List UInt8)×Unit):=(zp4 x).eval
noncomputable def zj3b:FS Tryz.prog:=mFS gm96 [(192,zup)] 192 z7v z7u zp4 fun x=>by kernel_rfl
def zbhb:List VP1:=[.agg [.i .u32,.i .i64]]
def zbgb:SP:=⟨1,[(0,.v (.one (.b)))],[]⟩
def zse:(Int×(Int×Unit))->Tr (Bool×Unit) :=
 fun (a0,a1,_) =>.opt ((zab (a1,(0,(32,()))))) (fun r0 =>.ite (r0.1) (.opt ((zvr (a0,(32,())))) (fun r1 =>.grd (decide (0<=a1/\a1<=(↑(List.length r1.1):Int)/\(↑(List.length r1.1):Int)<=(↑(List.length r1.1):Int))) (.grd (decide (List.length (List.drop (Int.toNat a1) (List.take (Int.toNat (↑(List.length r1.1):Int)) r1.1))<(4294967281:Nat))) (.ret (!Lib.contains (List.drop (Int.toNat a1) (List.take (Int.toNat (↑(List.length r1.1):Int)) r1.1)) [(49:UInt8)],()))))) (.ret (false,())))
noncomputable def gm97:List (PF Go.Proofs.Tryz.prog):=gm96++[FS.pf zj3b]
def zsf (x:(Int×(Int×Unit))):Option (Bool×Unit):=(zse x).eval
noncomputable def zoab:FS Tryz.prog:=mFS gm97 [] 176 zbhb zbgb zse fun x=>by kernel_rfl
def zxl:List VP1:=[.agg [.i .u32,.i .i64,.i .u32,.i .i64,.i .i64,.i .i64,.i .i64,.i .i64,.i .i64,.b]]
def zxk:SP:=⟨1,[(0,.v (.one (.b)))],[]⟩
def zjt:zf9b->Tr (Bool×Unit) :=
 fun (a0,a1,a2,a3,a4,a5,a6,a7,a8,a9,_) =>.opt ((zsf (a0,(a1,())))) (fun r0 =>.ite (r0.1) (.opt ((zsf (a2,(a3,())))) (fun r1 =>.ite (r1.1) (.opt ((zab (a4,(0,(255,()))))) (fun r2 =>.ite (r2.1) (.opt ((zab (a5,(0,(a6,()))))) (fun r3 =>.ite (r3.1) (.ite (decide (a6<65536)) (.opt ((zab (a7,(0,(a8,()))))) (fun r4 =>.ite (r4.1) (.ret (decide (a8<65536),())) (.ret (false,())))) (.ret (false,()))) (.ret (false,())))) (.ret (false,())))) (.ret (false,())))) (.ret (false,())))
noncomputable def gm98:List (PF Go.Proofs.Tryz.prog):=gm97++[FS.pf zoab]
def zne (x:zf9b):Option (Bool×Unit):=(zjt x).eval
noncomputable def z7m:FS Tryz.prog:=mFS gm98 [] 144 zxl zxk zjt fun x=>by kernel_rfl
def znd:LS:=⟨4,[],⟨18,[(10,.v (.one (.i .i64))),(8,.v (.one (.st 10 false))),(9,.v (.one (.i .i64)))],[]⟩,[⟨none,[],⟨18,[(2,.v (.one (.i .i64)))],[]⟩⟩,⟨some 0,[],⟨18,[],[]⟩⟩],[]⟩
def zee:zf8b->Tr (zf8b⊕((Int×Unit)⊕Unit)) :=
 fun (a0,a1,a2,_) =>.ite (decide (a0<a2)) (.grd (decide (0<=a0)) (.opt (a1[Int.toNat a0]?) (fun r0 =>.opt ((zne (r0.fromAddr,(r0.fromLong,(r0.toAddr,(r0.toLong,(r0.proto,(r0.fromLow,(r0.fromHigh,(r0.toLow,(r0.toHigh,(r0.pass,())))))))))))) (fun r1 =>.ite (!r1.1) (.ret (Sum.inr (Sum.inl (4,())))) (.ret (Sum.inl (wW .i64 (a0+1),(a1,(a2,()))))))))) (.ret (Sum.inr (Sum.inr ())))
def zef:=lpT 1000004 zee
def zuk:List VP1:=[.one (.st 10 false)]
def zuj:SP:=⟨1,[(0,.v (.one (.i .i64)))],[]⟩
def ziy:((List TRule)×Unit)->Tr (Int×Unit) :=
 fun (a0,_) =>.ite (decide (64<(↑(a0.length):Int))) (.ret (2,())) (.opt ((zef (0,(a0,((↑(a0.length):Int),()))))) (fun r0 =>.sum (r0) (fun r1 =>.ret (r1.1,())) (fun r1 =>.ret (0,()))))
noncomputable def gm99:List (PF Go.Proofs.Tryz.prog):=gm98++[FS.pf z7m]
def zlh (x:((List TRule)×Unit)):Option (Int×Unit):=(ziy x).eval
noncomputable def z2t:FS Tryz.prog:=mFS gm99 [(100,znd)] 100 zuk zuj ziy fun x=>by kernel_rfl
def zxn:List VP1:=[.agg [.i .u32,.i .i64,.i .i64,.i .i64,.i .i64,.i .i64,.st 10 false,.b]]
def zxm:SP:=⟨1,[(0,.v (.one (.i .i64)))],[]⟩
def zju:z6p->Tr (Int×Unit) :=
 fun (a0,a1,a2,a3,a4,a5,a6,a7,_) =>.opt ((zdh (a1,(0,())))) (fun r0 =>.ite (!decide (r0.1=0)) (.ret (1,())) (.opt ((zdh (a2,(0,())))) (fun r1 =>.ite (!decide (r1.1=0)) (.ret (1,())) (.opt ((zab (a3,(1,(1000000,()))))) (fun r2 =>.ite (!r2.1) (.ret (1,())) (.opt ((zab (a4,(0,(1000000,()))))) (fun r3 =>.ite (!r3.1) (.ret (1,())) (.opt ((zab (a5,(1,(1000000000,()))))) (fun r4 =>.ite (!r4.1) (.ret (1,())) (.opt ((zlh (a6,()))) (fun r5 =>.ret (r5.1,()))))))))))))
noncomputable def zoxb:List (PF Go.Proofs.Tryz.prog):=gm99++[FS.pf z2t]
def znf (x:z6p):Option (Int×Unit):=(zju x).eval
noncomputable def z7n:FS Tryz.prog:=mFS zoxb [] 54 zxn zxm zju fun x=>by kernel_rfl
def zng:LS:=⟨16,[(8,8),(1,1)],⟨125,[(100,.v (.one (.i .i64))),(8,.v (.one (.ptr 8 0))),(6,.v (.one (.b))),(98,.v (.one (.st 19 false))),(1,.v (.one (.ptr 1 0))),(63,.v (.one (.st 19 false))),(64,.v (.one (.i .i64))),(65,.v (.one (.i .i64))),(99,.v (.one (.i .i64)))],[(8,.cells [.i .u32,.i .i64,.i .i64,.i .i64,.i .i64]),(1,.cells [.i .u32,.i .i64,.i .i64,.i .i64,.i .i64,.i .i64,.st 10 false,.b,.st 19 false,.st 16 false,.i .i64,.i .i64,.i .u64,.i .i64,.i .u64,.st 17 false])]⟩,[⟨some 2,[(1,1)],⟨125,[(1,.v (.one (.ptr 1 0))),(6,.v (.one (.b))),(63,.v (.one (.st 19 false))),(64,.v (.one (.i .i64))),(65,.v (.one (.i .i64)))],[(1,.cells [.i .u32,.i .i64,.i .i64,.i .i64,.i .i64,.i .i64,.st 10 false,.b,.st 19 false,.st 16 false,.i .i64,.i .i64,.i .u64,.i .i64,.i .u64,.st 17 false])]⟩⟩],[]⟩
abbrev zmeb:Type:=(Int×(Bool×((List TMeter)×((List TMeter)×(Int×(Int×(Int×(Int×(Int×(Int×(Int×(Int×(Int×(Int×(Int×(Int×(Int×(Int×((List TRule)×(Bool×((List TMeter)×((List TTalk)×(Int×(Int×(Int×(Int×(Int×((List TMap)×Unit))))))))))))))))))))))))))))
abbrev znzb:Type:=(Bool×((List TMeter)×(Int×(Int×(Int×(Int×(Int×(Int×(Int×(Int×((List TRule)×(Bool×((List TMeter)×((List TTalk)×(Int×(Int×(Int×(Int×(Int×((List TMap)×Unit))))))))))))))))))))
def zeg:zmeb->Tr (zmeb⊕znzb) :=
 fun (a0,a1,a2,a3,a4,a5,a6,a7,a8,a9,a10,a11,a12,a13,a14,a15,a16,a17,a18,a19,a20,a21,a22,a23,a24,a25,a26,a27,_) =>.ite (decide (a0<a6)) (.grd (decide (0<=a0)) (.opt (a2[Int.toNat a0]?) (fun r0 =>.ite (a1) (.ite (!decide (r0.addr=a7)) (.ret (Sum.inl (wW .i64 (a0+1),(decide (r0.at'<=a11),(a2,(a3,(a4,(a5,(a6,(a7,(a8,(a9,(a10,(a11,(a12,(a13,(a14,(a15,(a16,(a17,(a18,(a19,(a20,(a21,(a22,(a23,(a24,(a25,(a26,(a27,())))))))))))))))))))))))))))))) (
 .ret (Sum.inl (wW .i64 (a0+1),(false,(a2,(a3,(a4,(a5,(a6,(a7,(a8,(a9,(a10,(a11,(a12,(a13,(a14,(a15,(a16,(a17,(a18,(a19,(a20,(a21,(a22,(a23,(a24,(a25,(a26,(a27,()))))))))))))))))))))))))))))))) (.ret (Sum.inl (wW .i64 (a0+1),(false,(a2,(a3,(a4,(a5,(a6,(a7,(a8,(a9,(a10,(a11,(a12,(a13,(a14,(a15,(a16,(a17,(a18,(a19,(a20,(a21,(a22,(a23,(a24,(a25,(a26,(a27,()))))))))))))))))))))))))))))))))) (
 .ret (Sum.inr (a1,(a3,(a4,(a5,(a12,(a13,(a14,(a15,(a16,(a17,(a18,(a19,(a20,(a21,(a22,(a23,(a24,(a25,(a26,(a27,()))))))))))))))))))))))
def za4:=lpT 230016 zeg
def znh:LS:=⟨12,[(1,1)],⟨125,[(65,.v (.one (.i .i64))),(1,.v (.one (.ptr 1 0))),(6,.v (.one (.b))),(63,.v (.one (.st 19 false))),(64,.v (.one (.i .i64)))],[(1,.cells [.i .u32,.i .i64,.i .i64,.i .i64,.i .i64,.i .i64,.st 10 false,.b,.st 19 false,.st 16 false,.i .i64,.i .i64,.i .u64,.i .i64,.i .u64,.st 17 false])]⟩,[⟨some 0,[],⟨125,[(6,.v (.one (.b)))],[]⟩⟩],[]⟩
abbrev zi2b:Type:=(Int×(Bool×((List TMeter)×(Int×(Int×(Int×(Int×(Int×(Int×(Int×((List TRule)×(Bool×((List TMeter)×((List TTalk)×(Int×(Int×(Int×(Int×(Int×((List TMap)×Unit))))))))))))))))))))
def zeh:zi2b->Tr (zi2b⊕(Bool×Unit)) :=
 fun (a0,a1,a2,a3,a4,a5,a6,a7,a8,a9,a10,a11,a12,a13,a14,a15,a16,a17,a18,a19,_) =>.ite (decide (a0<a3)) (.grd (decide (0<=a0)) (.opt (a2[Int.toNat a0]?) (fun r0 =>.ite (a1) (.opt ((zfk (r0.rate,(r0.most,(r0.has,(r0.at',())))))) (fun r1 =>.ite (decide (r1.1=0)) (.ite (decide (r0.rate=a8)) (.grd (decide ((0:Int)<=(0:Int)/\0<=a0/\a0<=(↑(a12.length):Int))) (
 .opt ((za4 (0,(decide (r0.most=a9),(List.drop (0:Nat) (List.take (Int.toNat a0) a12),(a2,(a3,(a0,((↑(List.length (List.drop (0:Nat) (List.take (Int.toNat a0) a12))):Int),(r0.addr,(r0.rate,(r0.most,(r0.has,(r0.at',(a4,(a5,(a6,(a7,(a8,(a9,(a10,(a11,(a12,(a13,(a14,(a15,(a16,(a17,(a18,(a19,())))))))))))))))))))))))))))))) (fun r2 =>.ret (Sum.inl (wW .i64 ((y3 r2)+1),(r2.1,(r2.2.1,(r2.2.2.1,(y4 r2,(y5 r2,(y6 r2,(y7 r2,(y8 r2,(y9 r2,(y10 r2,(y11 r2,(y12 r2,(y13 r2,(y14 r2,(y15 r2,(y16 r2,(y17 r2,(y18 r2,(y19 r2,())))))))))))))))))))))))) (
 .grd (decide ((0:Int)<=(0:Int)/\0<=a0/\a0<=(↑(a12.length):Int))) (.opt ((za4 (0,(false,(List.drop (0:Nat) (List.take (Int.toNat a0) a12),(a2,(a3,(a0,((↑(List.length (List.drop (0:Nat) (List.take (Int.toNat a0) a12))):Int),(r0.addr,(r0.rate,(r0.most,(r0.has,(r0.at',(a4,(a5,(a6,(a7,(a8,(a9,(a10,(a11,(a12,(a13,(a14,(a15,(a16,(a17,(a18,(a19,())))))))))))))))))))))))))))))) (fun r2 =>
 .ret (Sum.inl (wW .i64 ((y3 r2)+1),(r2.1,(r2.2.1,(r2.2.2.1,(y4 r2,(y5 r2,(y6 r2,(y7 r2,(y8 r2,(y9 r2,(y10 r2,(y11 r2,(y12 r2,(y13 r2,(y14 r2,(y15 r2,(y16 r2,(y17 r2,(y18 r2,(y19 r2,()))))))))))))))))))))))))) (.grd (decide ((0:Int)<=(0:Int)/\0<=a0/\a0<=(↑(a12.length):Int))) (
 .opt ((za4 (0,(false,(List.drop (0:Nat) (List.take (Int.toNat a0) a12),(a2,(a3,(a0,((↑(List.length (List.drop (0:Nat) (List.take (Int.toNat a0) a12))):Int),(r0.addr,(r0.rate,(r0.most,(r0.has,(r0.at',(a4,(a5,(a6,(a7,(a8,(a9,(a10,(a11,(a12,(a13,(a14,(a15,(a16,(a17,(a18,(a19,())))))))))))))))))))))))))))))) (fun r2 =>.ret (Sum.inl (wW .i64 ((y3 r2)+1),(r2.1,(r2.2.1,(r2.2.2.1,(y4 r2,(y5 r2,(y6 r2,(y7 r2,(y8 r2,(y9 r2,(y10 r2,(y11 r2,(y12 r2,(y13 r2,(y14 r2,(y15 r2,(y16 r2,(y17 r2,(y18 r2,(y19 r2,())))))))))))))))))))))))))) (
 .grd (decide ((0:Int)<=(0:Int)/\0<=a0/\a0<=(↑(a12.length):Int))) (.opt ((za4 (0,(false,(List.drop (0:Nat) (List.take (Int.toNat a0) a12),(a2,(a3,(a0,((↑(List.length (List.drop (0:Nat) (List.take (Int.toNat a0) a12))):Int),(r0.addr,(r0.rate,(r0.most,(r0.has,(r0.at',(a4,(a5,(a6,(a7,(a8,(a9,(a10,(a11,(a12,(a13,(a14,(a15,(a16,(a17,(a18,(a19,())))))))))))))))))))))))))))))) (fun r1 =>
 .ret (Sum.inl (wW .i64 ((y3 r1)+1),(r1.1,(r1.2.1,(r1.2.2.1,(y4 r1,(y5 r1,(y6 r1,(y7 r1,(y8 r1,(y9 r1,(y10 r1,(y11 r1,(y12 r1,(y13 r1,(y14 r1,(y15 r1,(y16 r1,(y17 r1,(y18 r1,(y19 r1,()))))))))))))))))))))))))))) (.ret (Sum.inr (a1,())))
def za5:=lpT 230012 zeh
def zuo:List VP1:=[.agg [.i .u32,.i .i64,.i .i64,.i .i64,.i .i64,.i .i64,.st 10 false,.b,.st 19 false,.st 16 false,.i .i64,.i .i64,.i .u64,.i .i64,.i .u64,.st 17 false]]
def zun:SP:=⟨1,[(0,.v (.one (.i .i64)))],[]⟩
def zi0:z13->Tr (Int×Unit) :=
 fun (a0,a1,a2,a3,a4,a5,a6,a7,a8,a9,a10,a11,a12,a13,a14,a15,_) =>.opt ((znf (a0,(a1,(a2,(a3,(a4,(a5,(a6,(a7,())))))))))) (fun r0 =>.ite (!decide (r0.1=0)) (.ret (r0.1,())) (.opt ((zhz (a9,()))) (fun r1 =>.ite (!decide (r1.1=0)) (.ret (r1.1,())) (.opt ((zsq (a10,(a11,(a12,(a13,(a14,(a15,())))))))) (fun r2 =>.ite (!decide (r2.1=0)) (.ret (r2.1,())) (.ite (decide ((↑(a8.length):Int)<=64)) (.ite (decide (a10=a3)) (.ite (decide (a11=a1)) (
 .opt ((za5 (0,(decide (a13=a2),(a8,((↑(a8.length):Int),(a0,(a1,(a2,(a3,(a4,(a5,(a6,(a7,(a8,(a9,(a10,(a11,(a12,(a13,(a14,(a15,())))))))))))))))))))))) (fun r3 =>.ite (!r3.1) (.ret (4,())) (.ret (0,())))) (.opt ((za5 (0,(false,(a8,((↑(a8.length):Int),(a0,(a1,(a2,(a3,(a4,(a5,(a6,(a7,(a8,(a9,(a10,(a11,(a12,(a13,(a14,(a15,())))))))))))))))))))))) (fun r3 =>.ite (!r3.1) (.ret (4,())) (.ret (0,()))))) (
 .opt ((za5 (0,(false,(a8,((↑(a8.length):Int),(a0,(a1,(a2,(a3,(a4,(a5,(a6,(a7,(a8,(a9,(a10,(a11,(a12,(a13,(a14,(a15,())))))))))))))))))))))) (fun r3 =>.ite (!r3.1) (.ret (4,())) (.ret (0,()))))) (.opt ((za5 (0,(false,(a8,((↑(a8.length):Int),(a0,(a1,(a2,(a3,(a4,(a5,(a6,(a7,(a8,(a9,(a10,(a11,(a12,(a13,(a14,(a15,())))))))))))))))))))))) (fun r3 =>.ite (!r3.1) (.ret (4,())) (.ret (0,()))))))))))
noncomputable def zowb:List (PF Go.Proofs.Tryz.prog):=zoxb++[FS.pf z7n]
def zli (x:z13):Option (Int×Unit):=(zi0 x).eval
noncomputable def z2u:FS Tryz.prog:=mFS zowb [(23,zng),(23,znh)] 23 zuo zun zi0 fun x=>by kernel_rfl
def zut:List VP1:=[.agg [.i .u32,.i .i64,.i .i64,.i .i64,.i .i64,.i .i64,.st 10 false,.b,.st 19 false,.st 16 false,.i .i64,.i .i64,.i .u64,.i .i64,.i .u64,.st 17 false],.one (.b),.one (.s),.one (.i .i64)]
def zus:SP:=⟨1,[(0,.v (.one (.b)))],[]⟩
def zeo:zf4b->Tr (Bool×Unit) :=
 fun (a0,a1,a2,a3,a4,a5,a6,a7,a8,a9,a10,a11,a12,a13,a14,a15,a16,a17,a18,_) =>.opt ((zel (a0,(a1,(a2,(a3,(a4,(a5,(a6,(a7,(a8,(a9,(a10,(a11,(a12,(a13,(a14,(a15,(a16,(a17,(a18,()))))))))))))))))))))) (fun r0 =>.opt ((zd6 ())) (fun r1 =>.ite (!r1.1) (.opt ((zd6 ())) (fun r2 =>.ite (r2.1) (.ite (decide ((y16 r0)=[])) (.ite (decide ((y17 r0)=0)) (
 .opt ((zic (r0.1,(r0.2.1,(r0.2.2.1,(y3 r0,(y4 r0,(y5 r0,(y6 r0,(y7 r0,(y8 r0,(y9 r0,(y10 r0,(y11 r0,(y12 r0,(y13 r0,(y14 r0,(y15 r0,(a0,(a1,(a2,(a3,(a4,(a5,(a6,(a7,(a8,(a9,(a10,(a11,(a12,(a13,(a14,(a15,())))))))))))))))))))))))))))))))))) (fun r3 =>.ret (r3.1,()))) (.ret (false,()))) (.ret (false,()))) (.ret (false,())))) (.ite (!decide ((y18 r0)=0)) (.opt ((zd6 ())) (fun r2 =>.ite (r2.1) (.ite (decide ((y16 r0)=[])) (.ite (decide ((y17 r0)=0)) (
 .opt ((zic (r0.1,(r0.2.1,(r0.2.2.1,(y3 r0,(y4 r0,(y5 r0,(y6 r0,(y7 r0,(y8 r0,(y9 r0,(y10 r0,(y11 r0,(y12 r0,(y13 r0,(y14 r0,(y15 r0,(a0,(a1,(a2,(a3,(a4,(a5,(a6,(a7,(a8,(a9,(a10,(a11,(a12,(a13,(a14,(a15,())))))))))))))))))))))))))))))))))) (fun r3 =>.ret (r3.1,()))) (.ret (false,()))) (.ret (false,()))) (.ret (false,())))) (.opt ((zoy (y16 r0,()))) (fun r2 =>.opt ((zli (r0.1,(r0.2.1,(r0.2.2.1,(y3 r0,(y4 r0,(y5 r0,(y6 r0,(y7 r0,(y8 r0,(y9 r0,(y10 r0,(y11 r0,(y12 r0,(y13 r0,(y14 r0,(y15 r0,())))))))))))))))))) (fun r3 =>
 .ite (decide (r3.1=0)) (.opt ((zed (r0.1,(r0.2.1,(r0.2.2.1,(y3 r0,(y4 r0,(y5 r0,(y6 r0,(y7 r0,(a0,(a1,(a2,(a3,(a4,(a5,(a6,(a7,())))))))))))))))))) (fun r4 =>.ite (r4.1) (.ite (decide (0<=(y17 r0))) (.ite (decide ((y17 r0)<=5)) (.ite (decide ((y17 r0)=0)==decide ((y5 r2)=0)) (.ite (decide ((y17 r0)=0)) (.ret (true,())) (.ret (decide ((y16 r0)=[]),()))) (.ret (false,()))) (.ret (false,()))) (.ret (false,()))) (.ret (false,())))) (.ret (false,()))))))))
noncomputable def zpyb:List (PF Go.Proofs.Tryz.prog):=zowb++[FS.pf z2u]
def zfjb (x:zf4b):Option (Bool×Unit):=(zeo x).eval
noncomputable def z3o:FS Tryz.prog:=mFS zpyb [] 5 zut zus zeo fun x=>by kernel_rfl
open Go Go.RowKit Go.Proofs.YthkhikdglmaiaaaGreatDoor.Abs
theorem zptb:zsb ((0:Int),())=some ([48],()):=by kernel_rfl
theorem zpsb:zsb ((1:Int),())=some ([49],()):=by kernel_rfl
def bitC (a:Int) (i:Nat):UInt8:=if (a / (2:Int)^(31-i))%2=0 then 48 else 49
theorem zpqb:∀ i:Fin 32,IntKind.wrap IntKind.i64 ((1:Int)*(2:Int)^min (Int.toNat (IntKind.wrap IntKind.i64 ((31:Int)-(i.val:Int)))) (64:Nat))=(2:Int)^(31-i.val):=by decide +kernel
theorem zgzb (k:Nat):(0:Int)<(2:Int)^k:=Int.pow_pos (by decide)
theorem zlzb {a:Int} (ha:0<=a/\a<=4294967295):zvr (a,((32:Int),()))=some ((List.range 32).map (bitC a),()):=by
 have lp:=zkw (tag:=1920003) (f:=fun x=>(zcu x).eval)
  (fun x=>∃ i:Nat,i<=32/\x=((i:Int),(a,((List.range i).map (bitC a),((32:Int),()))))) (fun y=>y=((List.range 32).map (bitC a),())) (fun x=>32-x.1.toNat)
  (by
   rintro _ ⟨i,hi,rfl⟩
   by_cases hlt:i<32
   case neg =>
     have:i=32:=by omega
     subst this
     exact .inl ⟨_,ev_f rfl (ev_r rfl),rfl⟩
   have e1:IntKind.wrap IntKind.i64 ((i:Int)+(1:Int))=((i+1:Nat):Int):=wi _ (by omega)
   have e31:IntKind.wrap IntKind.i64 ((31:Int)-(i:Int))=31-i:=wi _ (by omega)
   have ep:=zpqb ⟨i,hlt⟩
   simp only at ep
   have hpos:=zgzb (31-i)
   have ea:IntKind.wrap IntKind.i64 a=a:=wi _ (by omega)
   obtain ⟨q,hq⟩:∃ q:Int,q=a / (2:Int)^(31-i):=⟨_,rfl⟩
   have q0:0<=q:=by rw [hq]; exact Int.ediv_nonneg ha.1 (Int.le_of_lt hpos)
   have q1:q<=a:=by rw [hq]; exact Int.ediv_le_self _ ha.1
   have et:Int.tmod (IntKind.wrap IntKind.i64 (Int.tdiv a ((2:Int)^(31-i)))) (2:Int)=q%2:=by
     rw [Int.tdiv_eq_ediv_of_nonneg ha.1,<- hq,wi _ (by omega),Int.tmod_eq_emod_of_nonneg q0]
   have hn:zsb (q%2,())=some ([bitC a i],()):=by
     unfold bitC
     rw [<- hq]
     by_cases hz:q%2=0
     . rw [hz,if_pos rfl]; exact zptb
     . rw [if_neg hz,show q%2=1 by omega]; exact zpsb
   refine .inr ⟨_,?_,⟨i+1,by omega,rfl⟩,?_⟩
   . show (zcu ((i:Int),(a,((List.range i).map (bitC a),((32:Int),()))))).eval=_
     unfold zcu
     simp only [ep,ea,et]
     refine ev_t (decide_eq_true (by omega)) (ev_g (decide_eq_true (by rw [e31]; omega)) (ev_g (decide_eq_true (by omega)) (ev_g rfl (zaa hn (ev_g (decide_eq_true (by simp <;> omega)) (ev_r ?_))))))
     rw [e1,List.range_succ,List.map_append]
     rfl
   . show 32-((i+1:Nat):Int).toNat<32-((i:Nat):Int).toNat
     omega) 18446744073709551616 ((0:Int),(a,([],((32:Int),())))) ⟨0,by omega,rfl⟩ (by show 32-(0:Int).toNat<18446744073709551616; omega)
 obtain ⟨_,h1,rfl⟩:=lp
 exact zaa (show zhc _=_ from h1) (ev_r rfl)
theorem zitb {a:Int} (i:Nat) (hi:i<32) (h:(a*(2:Int)^i)%4294967296=0):(a / (2:Int)^(31-i))%2=0:=by
 have hc:i=0\/i=1\/i=2\/i=3\/i=4\/i=5\/i=6\/i=7\/i=8\/i=9\/i=10\/i=11\/i=12\/i=13\/i=14\/i=15\/i=16\/i=17\/i=18\/i=19\/i=20\/i=21\/i=22\/i=23\/i=24\/i=25\/i=26\/i=27\/i=28\/i=29\/i=30\/i=31:=by omega
 rcases hc with rfl | rfl | rfl | rfl | rfl | rfl | rfl | rfl | rfl | rfl | rfl | rfl | rfl | rfl | rfl | rfl | rfl | rfl | rfl | rfl | rfl | rfl | rfl | rfl | rfl | rfl | rfl | rfl | rfl | rfl | rfl | rfl <;> (simp only [Nat.reduceSub,Int.reducePow] at h ⊢; omega)
theorem zfab {a:Int} {l i:Nat} (hl:l<=i) (hi:i<32) (h:(a*(2:Int)^l)%4294967296=0):bitC a i=48:=by
 have e:a*(2:Int)^i=a*(2:Int)^l*(2:Int)^(i-l):=by rw [Int.mul_assoc,<- Int.pow_add,Nat.add_sub_cancel' hl]
 unfold bitC
 rw [if_pos (zitb i hi (by rw [e,Int.mul_emod,h]; simp))]
open Go Go.RowKit Go.Proofs.YthkhikdglmaiaaaGreatDoor.Abs Go.Proofs.YthkhikdglmaiaaaGreatDoor.Bits
theorem z9h (x a b:Int):zab (x,(a,(b,())))=some (decide (a<=x/\x<=b),()):=by
 unfold zab zcv
 by_cases h:a<=x
 . exact ev_t (decide_eq_true h) (ev_r (by simp [h]))
 . exact ev_f (decide_eq_false h) (ev_r (by simp [h]))
theorem zdn {x a b:Int} (h:a<=x/\x<=b):zab (x,(a,(b,())))=some (true,()):=by rw [z9h,decide_eq_true h]
theorem w8gO (x:Int):decide ((0:Int)<=IntKind.wrap IntKind.u8 x/\IntKind.wrap IntKind.u8 x<(256:Int))=true:=by rw [zu9]; simp; omega
theorem zbnb (l:List Int) (hl:l.length<=1000) (acc:List UInt8) (ha:acc.length=l.length):∃ r:List UInt8,r.length=l.length/\zfj ((0:Int),(l,((l.length:Int),(acc,()))))=some (r,()):=by
 have:=zkw (tag:=920003) (f:=fun x=>(zay x).eval) (fun a=>∃ (i:Nat) (r:List UInt8),i<=l.length/\r.length=l.length/\a=((i:Int),(l,((l.length:Int),(r,()))))) (fun b=>∃ r:List UInt8,r.length=l.length/\b=(r,())) (fun a=>l.length-a.1.toNat)
  (by
   rintro _ ⟨i,r,hi,hr,rfl⟩
   by_cases hlt:i<l.length
   . have hx:l[i]?=some l[i]:=List.getElem?_eq_getElem hlt
     have hy:r[i]?=some r[i]:=List.getElem?_eq_getElem (by omega)
     refine .inr ⟨(((i+1:Nat):Int),(l,((l.length:Int),(r.set i (UInt8.ofNat (Int.toNat (IntKind.wrap IntKind.u8 l[i]))),())))),?_,⟨i+1,_,by omega,by simpa using hr,rfl⟩,?_⟩
     . show (zay _).eval=_
       unfold zay
       exact ev_t (by simp <;> omega) (ev_g (by simp) (zaa (b:=l[i]) (by simpa using hx) (ev_g (by simp <;> omega) (zaa (b:=r[i]) (by simpa using hy) (ev_g (w8gO _) (ev_g (by simp) (ev_r (by rw [zax i (by omega)]; simp))))))))
     . show l.length-(((i+1:Nat):Int)).toNat<l.length-((i:Nat):Int).toNat; omega
   . refine .inl ⟨(r,()),?_,r,hr,rfl⟩
     show (zay _).eval=_
     exact ev_f (by simp <;> omega) (ev_g (by simp) (ev_r rfl))) 18446744073709551616 ((0:Int),(l,((l.length:Int),(acc,())))) ⟨0,acc,by omega,ha,rfl⟩ (by show l.length - _ < _; omega)
 obtain ⟨b,h1,r,h2,rfl⟩:=this
 exact ⟨r,h2,h1⟩
theorem zyk (l:List Int) (hl:l.length<=1000):∃ r:List UInt8,r.length=l.length/\zbu (l,())=some (r,()):=by
 obtain ⟨r,h1,h2⟩:=zbnb l hl (List.replicate (Int.toNat (l.length:Int)) (UInt8.ofNat 0)) (by simp)
 exact ⟨r,h1,ev_g (by simp <;> omega) (ev_g rfl (ev_g (by simp) (zaa h2 (ev_r rfl))))⟩
theorem zoj (n:Int):∃ r:List UInt8,r.length=2/\zas (n,())=some (r,()):=by
 obtain ⟨r,h1,h2⟩:=zyk [IntKind.wrap IntKind.i64 (Int.tdiv n (256:Int)),Int.tmod n (256:Int)] (by simp)
 exact ⟨r,h1,ev_g rfl (ev_g rfl (zaa h2 (ev_r rfl)))⟩
theorem zcdb (n:Int):∃ r:List UInt8,r.length=4/\zb8 (n,())=some (r,()):=by
 obtain ⟨r,h1,h2⟩:=zoj (IntKind.wrap IntKind.i64 (IntKind.wrap IntKind.u32 (Int.tdiv n (65536:Int))))
 obtain ⟨s,h3,h4⟩:=zoj (IntKind.wrap IntKind.i64 (Int.tmod n (65536:Int)))
 exact ⟨r++s,by simp [h1,h3],ev_g rfl (zaa h2 (ev_g rfl (zaa h4 (ev_g (by simp [h1,h3]) (ev_r rfl)))))⟩
theorem zdg (s:List UInt8) (i:Nat) (hi:i+1<s.length) (hs:s.length<=Lim):zaf (s,((i:Int),()))=some (wAt s i,()):=by
 unfold Lim at hs
 have b0:=u8n (s.getD i 0); have b1:=u8n (s.getD (i+1) 0)
 unfold zaf zjr
 refine ev_g (by simp <;> omega) (ev_t (by rw [zax i (by omega)]; simp; omega) (ev_g (by rw [zax i (by omega)]; simp; omega) (ev_r ?_)))
 rw [zax i (by omega)]
 simp only [Int.toNat_natCast]
 have e1:IntKind.wrap IntKind.i64 ((s.getD i 0).toNat:Int)=((s.getD i 0).toNat:Int):=zag ⟨by omega,by omega⟩
 have e2:IntKind.wrap IntKind.i64 ((s.getD (i+1) 0).toNat:Int)=((s.getD (i+1) 0).toNat:Int):=zag ⟨by omega,by omega⟩
 have e3:IntKind.wrap IntKind.i64 ((256:Int)*((s.getD i 0).toNat:Int))=(256:Int)*((s.getD i 0).toNat:Int):=zag ⟨by omega,by omega⟩
 have e4:IntKind.wrap IntKind.i64 ((256:Int)*((s.getD i 0).toNat:Int)+((s.getD (i+1) 0).toNat:Int))=(256:Int)*((s.getD i 0).toNat:Int)+((s.getD (i+1) 0).toNat:Int):=zag ⟨by omega,by omega⟩
 rw [e1,e2,e3,e4]
 unfold wAt wv
 rw [Int.mul_comm]
theorem zxp (s:List UInt8) (i:Nat) (hi:i+3<s.length) (hs:s.length<=Lim):zg8 (s,((i:Int),()))=some (lAt s i,()):=by
 have hs':=hs
 unfold Lim at hs'
 have b0:=zac s i; have b1:=zac s (i+2)
 have n2:IntKind.wrap IntKind.i64 ((i:Int)+(2:Int))=((i+2:Nat):Int):=by rw [zag (x:=(i:Int)+2) ⟨by omega,by omega⟩]; rfl
 refine zaa (zdg s i (by omega) hs) (zaa (b:=(wAt s (i+2),())) ?_ (ev_r ?_))
 . rw [n2]; exact zdg s (i+2) (by omega) hs
 . have e1:IntKind.wrap IntKind.i64 ((65536:Int)*wAt s i)=(65536:Int)*wAt s i:=zag ⟨by omega,by omega⟩
   have e2:IntKind.wrap IntKind.i64 ((65536:Int)*wAt s i+wAt s (i+2))=(65536:Int)*wAt s i+wAt s (i+2):=zag ⟨by omega,by omega⟩
   have e3:IntKind.wrap IntKind.u32 ((65536:Int)*wAt s i+wAt s (i+2))=lAt s i:=by rw [zhv]; unfold lAt; omega
   show (IntKind.wrap IntKind.u32 (IntKind.wrap IntKind.i64 (IntKind.wrap IntKind.i64 ((65536:Int)*wAt s i)+wAt s (i+2))),())=_
   rw [e1,e2,e3]
theorem zbib (n:Nat) (b:Int) (hb:0<=b/\b<=65535):zie ((ear n:Int),(b,()))=some ((ear (n+b.toNat):Int),()):=by
 have h1:=zwh n
 have e1:IntKind.wrap IntKind.i64 ((ear n:Int)+b)=(ear n:Int)+b:=zag ⟨by omega,by omega⟩
 have e2:IntKind.wrap IntKind.i64 ((ear n:Int)+b-65535)=(ear n:Int)+b-65535:=zag ⟨by omega,by omega⟩
 have key:ear (n+b.toNat)=if 65535<ear n+b.toNat then ear n+b.toNat-65535 else ear n+b.toNat:=by
   rw [<- zk1b]
   have:ear (ear n+b.toNat)=if ear n+b.toNat=0 then 0 else (ear n+b.toNat-1)%65535+1:=rfl
   rw [this]
   split <;> split <;> omega
 unfold zie zfi
 by_cases h:(65535:Int)<(ear n:Int)+b
 . refine ev_t (decide_eq_true (by rw [e1]; exact h)) (ev_r ?_)
   show (IntKind.wrap IntKind.i64 (IntKind.wrap IntKind.i64 ((ear n:Int)+b)-65535),())=_
   rw [e1,e2,key,if_pos (by omega)]
   congr 1; omega
 . refine ev_f (decide_eq_false (by rw [e1]; exact h)) (ev_r ?_)
   show (IntKind.wrap IntKind.i64 ((ear n:Int)+b),())=_
   rw [e1,key,if_neg (by omega)]
   congr 1; omega
theorem z4p (s:List UInt8) (k:Nat) (h:2*k+1<s.length):ws (s.take (2*(k+1)))=ws (s.take (2*k))+(wAt s (2*k)).toNat:=by
 have e:s.take (2*(k+1))=s.take (2*k)++[s[2*k],s[2*k+1]]:=by
  rw [show 2*(k+1)=2*k+2 by omega,List.take_add,List.drop_eq_getElem_cons (show 2*k<s.length by omega),List.drop_eq_getElem_cons (show 2*k+1<s.length by omega)]
  rfl
 rw [e,zmr _ _ (by simp <;> omega)]
 have g0:s.getD (2*k) 0=s[2*k]:=by rw [List.getD_eq_getElem?_getD,List.getElem?_eq_getElem (by omega)]; rfl
 have g1:s.getD (2*k+1) 0=s[2*k+1]:=by rw [List.getD_eq_getElem?_getD,List.getElem?_eq_getElem (by omega)]; rfl
 unfold wAt wv
 rw [g0,g1]
 simp only [ws]
 omega
theorem zbbb (s:List UInt8) (hs:s.length<=Lim) (h2:s.length%2=0):zec ((0:Int),(s,()))=some ((ear (ws s):Int),()):=by
 unfold Lim at hs
 have key:∀ (c k n:Nat),2*k+2*c=s.length->c<n->zb2 500002 (fun x=>(zch x).eval) n (((2*k:Nat):Int),(s,((ear (ws (s.take (2*k))):Int),())))=some ((ear (ws s):Int),()):=by
  intro c
  induction c with
  | zero =>
   intro k n hk hn
   obtain ⟨n,rfl⟩:∃ m,n=m+1:=⟨n-1,by omega⟩
   have:s.take (2*k)=s:=List.take_of_length_le (by omega)
   rw [this]
   exact zam (ev_f (decide_eq_false (by show ¬ ((2*k:Nat):Int)<(s.length:Int); omega)) (ev_r rfl))
  | succ c ih =>
   intro k n hk hn
   obtain ⟨n,rfl⟩:∃ m,n=m+1:=⟨n-1,by omega⟩
   have hw:=zdg s (2*k) (by omega) (by unfold Lim; omega)
   have he:=zbib (ws (s.take (2*k))) (wAt s (2*k)) (zac _ _)
   have hst:(zch (((2*k:Nat):Int),(s,((ear (ws (s.take (2*k))):Int),())))).eval=some (.inl (IntKind.wrap IntKind.i64 (((2*k:Nat):Int)+(2:Int)),(s,((ear (ws (s.take (2*k))+(wAt s (2*k)).toNat):Int),())))) :=
    ev_t (decide_eq_true (by show ((2*k:Nat):Int)<(s.length:Int); omega)) (zaa hw (zaa he (ev_r rfl)))
   rw [za2 hst]
   have n2:IntKind.wrap IntKind.i64 (((2*k:Nat):Int)+(2:Int))=((2*(k+1):Nat):Int):=by rw [zag (x:=((2*k:Nat):Int)+2) ⟨by omega,by omega⟩]; omega
   rw [n2,<- z4p s k (by omega)]
   exact ih (k+1) n (by omega) (by omega)
 have:=key (s.length / 2) 0 18446744073709551616 (by omega) (by omega)
 exact zaa (show zfg ((0:Int),(s,((0:Int),())))=_ from this) (ev_r rfl)
theorem zbkb (s:List UInt8) (hs:s.length<=Lim) (h2:s.length%2=0):∃ n:Int,zha (s,())=some (n,()):=⟨_,zaa (zbbb s hs h2) (ev_r rfl)⟩
theorem exO {α β R:Type} {o:Option β} {k:β->Tr α} {b:β} {r:R->Option α} (h:o=some b) (h2:∃ s,(k b).eval=r s):∃ s,(Tr.opt o k).eval=r s:=by obtain ⟨s,h3⟩:=h2; exact ⟨s,zaa h h3⟩
theorem exF {α R:Type} {c:Bool} {t e:Tr α} {r:R->Option α} (h:c=false) (h2:∃ s,e.eval=r s):∃ s,(Tr.ite c t e).eval=r s:=by obtain ⟨s,h3⟩:=h2; exact ⟨s,ev_f h h3⟩
theorem exG {α R:Type} {c:Bool} {t:Tr α} {r:R->Option α} (h:c=true) (h2:∃ s,t.eval=r s):∃ s,(Tr.grd c t).eval=r s:=by obtain ⟨s,h3⟩:=h2; exact ⟨s,ev_g h h3⟩
def zbrb (p:TPacket) (fl:Int):Tr (List UInt8×(Int×Unit)) :=
 .grd (true) (
 .opt (β:=((List UInt8)×Unit)) ((zbu ([IntKind.wrap IntKind.i64 ((69:Int)+IntKind.wrap IntKind.i64 (Int.tdiv (↑(List.length p.options):Int) (4:Int))),p.tos],()))) (fun r5 =>
 .opt (β:=((List UInt8)×Unit)) ((zas (IntKind.wrap IntKind.i64 (IntKind.wrap IntKind.i64 ((20:Int)+(↑(List.length p.options):Int))+(↑(List.length p.data):Int)),()))) (fun r6 =>
 .grd (decide (List.length r5.1+List.length r6.1<=(9223372036854775807:Nat))) (
 .opt (β:=((List UInt8)×Unit)) ((zas (p.id,()))) (fun r7 =>
 .grd (decide (List.length (r5.1++r6.1)+List.length r7.1<=(9223372036854775807:Nat))) (
 .opt (β:=((List UInt8)×Unit)) ((zas (fl,()))) (fun r8 =>
 .grd (decide (List.length (r5.1++r6.1++r7.1)+List.length r8.1<=(9223372036854775807:Nat))) (
 .opt (β:=((List UInt8)×Unit)) ((zbu ([p.life,p.proto,(0:Int),(0:Int)],()))) (fun r9 =>
 .grd (decide (List.length (r5.1++r6.1++r7.1++r8.1)+List.length r9.1<=(9223372036854775807:Nat))) (
 .opt (β:=((List UInt8)×Unit)) ((zb8 (p.from',()))) (fun r10 =>
 .grd (decide (List.length (r5.1++r6.1++r7.1++r8.1++r9.1)+List.length r10.1<=(9223372036854775807:Nat))) (
 .opt (β:=((List UInt8)×Unit)) ((zb8 (p.to,()))) (fun r11 =>
 .grd (decide (List.length (r5.1++r6.1++r7.1++r8.1++r9.1++r10.1)+List.length r11.1<=(9223372036854775807:Nat))) (
 .grd (decide (List.length (r5.1++r6.1++r7.1++r8.1++r9.1++r10.1++r11.1)+List.length p.options<=(9223372036854775807:Nat))) (
 .grd (decide ((0:Int)<=(0:Int)/\(0:Int)<=(10:Int)/\(10:Int)<=(↑(List.length (r5.1++r6.1++r7.1++r8.1++r9.1++r10.1++r11.1++p.options)):Int))) (
 .opt (β:=(Int×Unit)) ((zha (r5.1++r6.1++r7.1++r8.1++r9.1++r10.1++r11.1++p.options,()))) (fun r12 =>
 .opt (β:=((List UInt8)×Unit)) ((zas (r12.1,()))) (fun r13 =>
 .grd (decide (List.length (List.drop (0:Nat) (List.take (10:Nat) (r5.1++r6.1++r7.1++r8.1++r9.1++r10.1++r11.1++p.options)))+List.length r13.1<=(9223372036854775807:Nat))) (
 .grd (decide ((0:Int)<=(12:Int)/\(12:Int)<=(↑(List.length (r5.1++r6.1++r7.1++r8.1++r9.1++r10.1++r11.1++p.options)):Int)/\(↑(List.length (r5.1++r6.1++r7.1++r8.1++r9.1++r10.1++r11.1++p.options)):Int)<=(↑(List.length (r5.1++r6.1++r7.1++r8.1++r9.1++r10.1++r11.1++p.options)):Int))) (
 .grd (decide (List.length (List.drop (0:Nat) (List.take (10:Nat) (r5.1++r6.1++r7.1++r8.1++r9.1++r10.1++r11.1++p.options))++r13.1)+List.length (List.drop (12:Nat) (List.take (Int.toNat (↑(List.length (r5.1++r6.1++r7.1++r8.1++r9.1++r10.1++r11.1++p.options)):Int)) (r5.1++r6.1++r7.1++r8.1++r9.1++r10.1++r11.1++p.options)))<=(9223372036854775807:Nat))) (
 .grd (decide (List.length (List.drop (0:Nat) (List.take (10:Nat) (r5.1++r6.1++r7.1++r8.1++r9.1++r10.1++r11.1++p.options))++r13.1++List.drop (12:Nat) (List.take (Int.toNat (↑(List.length (r5.1++r6.1++r7.1++r8.1++r9.1++r10.1++r11.1++p.options)):Int)) (r5.1++r6.1++r7.1++r8.1++r9.1++r10.1++r11.1++p.options)))+List.length p.data<=(9223372036854775807:Nat))) (
 .ret (List.drop (0:Nat) (List.take (10:Nat) (r5.1++r6.1++r7.1++r8.1++r9.1++r10.1++r11.1++p.options))++r13.1++List.drop (12:Nat) (List.take (Int.toNat (↑(List.length (r5.1++r6.1++r7.1++r8.1++r9.1++r10.1++r11.1++p.options)):Int)) (r5.1++r6.1++r7.1++r8.1++r9.1++r10.1++r11.1++p.options))++p.data,((0:Int),()))))))))))))))))))))))))
set_option maxHeartbeats 1000000 in
theorem z7x {p : TPacket} (h : RefOk p) : ∃ z, zgq (p11 p ()) = some (z, ((0 : Int), ())) := by
 obtain ⟨h1, h2, h3, h4, h5, h6, h7, h8, h9⟩ := h
 have wl : IntKind.wrap IntKind.i64 (IntKind.wrap IntKind.i64 ((20 : Int) + (p.options.length : Int)) + (p.data.length : Int)) = 20 + p.options.length + p.data.length := by
  rw [zag (x := (20 : Int) + p.options.length) ⟨by omega, by omega⟩, zag ⟨by omega, by omega⟩]
 have tail : ∀ (fl : Int), ∃ z, (Tr.ite (decide ((65535 : Int) < IntKind.wrap IntKind.i64 (IntKind.wrap IntKind.i64 ((20 : Int) + (p.options.length : Int)) + (p.data.length : Int)))) (.ret (([] : List UInt8), ((2 : Int), ()))) (zbrb p fl)).eval = some (z, ((0 : Int), ())) := by
  intro fl
  obtain ⟨r5, a5, b5⟩ := zyk [IntKind.wrap IntKind.i64 ((69 : Int) + IntKind.wrap IntKind.i64 (Int.tdiv (p.options.length : Int) (4 : Int))), p.tos] (by simp)
  obtain ⟨r6, a6, b6⟩ := zoj (IntKind.wrap IntKind.i64 (IntKind.wrap IntKind.i64 ((20 : Int) + (p.options.length : Int)) + (p.data.length : Int)))
  obtain ⟨r7, a7, b7⟩ := zoj p.id
  obtain ⟨r8, a8, b8⟩ := zoj fl
  obtain ⟨r9, a9, b9⟩ := zyk [p.life, p.proto, (0 : Int), (0 : Int)] (by simp)
  obtain ⟨r10, a10, b10⟩ := zcdb p.from'
  obtain ⟨r11, a11, b11⟩ := zcdb p.to
  simp only [List.length_cons, List.length_nil] at a5 a9
  have hlen : (r5 ++ r6 ++ r7 ++ r8 ++ r9 ++ r10 ++ r11 ++ p.options).length = 20 + p.options.length := by simp only [List.length_append]; omega
  obtain ⟨n, b12⟩ := zbkb (r5 ++ r6 ++ r7 ++ r8 ++ r9 ++ r10 ++ r11 ++ p.options) (by rw [hlen]; unfold Lim; omega) (by rw [hlen]; omega)
  obtain ⟨r13, a13, b13⟩ := zoj n
  unfold zbrb
  refine exF (r := fun z => some (z, ((0 : Int), ()))) (decide_eq_false (by rw [wl]; omega)) (exG rfl (exO b5 (exO b6 (exG (by simp only [List.length_append]; simp; omega) (exO b7 (exG (by simp only [List.length_append]; simp; omega) (exO b8 (exG (by simp only [List.length_append]; simp; omega) (exO b9 (exG (by simp only [List.length_append]; simp; omega) (exO b10 (exG (by simp only [List.length_append]; simp; omega) (exO b11 (exG (by simp only [List.length_append]; simp; omega) (exG (by simp only [List.length_append]; simp; omega) (exG (by simp only [hlen]; simp; omega) (exO b12 (exO b13 ?_))))))))))))))))))
  refine exG ?_ (exG ?_ (exG ?_ (exG ?_ ⟨_, ev_r rfl⟩)))
  all_goals simp only [hlen, List.length_append, List.length_drop, List.length_take]; simp; omega
 have n1 : (!(true : Bool)) = false := rfl
 have c1 : decide ((40 : Int) < (p.options.length : Int)) = false := decide_eq_false (by omega)
 have c2 : decide ((0 : Int) < Int.tmod (p.options.length : Int) (4 : Int)) = false := decide_eq_false (by rw [Int.tmod_eq_emod_of_nonneg (by omega)]; omega)
 unfold zgq
 cases hw : p.whole with
 | true =>
  obtain ⟨g1, g2⟩ := h8 hw
  obtain ⟨z, hz⟩ := tail 16384
  exact ⟨z, zaa (zdn h1) (ev_f rfl (zaa (zdn h2) (ev_f rfl (zaa (zdn h3) (ev_f rfl (zaa (zdn h4) (ev_f rfl (zaa (zdn h5) (ev_f rfl (ev_f c1 (ev_g rfl (ev_f c2 (ev_t hw (ev_f g1 (ev_f (decide_eq_false (by show ¬ 0 < p.start; omega)) (ev_f g1 hz))))))))))))))))⟩
 | false =>
  cases hm : p.more with
  | true =>
   obtain ⟨z, hz⟩ := tail (IntKind.wrap IntKind.i64 (p.start + (8192 : Int)))
   exact ⟨z, zaa (zdn h1) (ev_f rfl (zaa (zdn h2) (ev_f rfl (zaa (zdn h3) (ev_f rfl (zaa (zdn h4) (ev_f rfl (zaa (zdn h5) (ev_f rfl (ev_f c1 (ev_g rfl (ev_f c2 (ev_f hw (ev_t hm hz))))))))))))))⟩
  | false =>
   obtain ⟨z, hz⟩ := tail p.start
   exact ⟨z, zaa (zdn h1) (ev_f rfl (zaa (zdn h2) (ev_f rfl (zaa (zdn h3) (ev_f rfl (zaa (zdn h4) (ev_f rfl (zaa (zdn h5) (ev_f rfl (ev_f c1 (ev_g rfl (ev_f c2 (ev_f hw (ev_f hm hz))))))))))))))⟩

theorem zn0b {s:List UInt8} (h:IpOk s) (hl:s.length<=Lim):zd4 (s,())=some (p11 (pk s) ((0:Int),())):=by
 have hl':=hl
 unfold Lim at hl'
 obtain ⟨k1,k2,k3,k4,k5,k6,k7,k8,k9,k10⟩:=h
 have u0:=u8n (s.getD 0 0); have u1:=u8n (s.getD 1 0); have u8':=u8n (s.getD 8 0); have u9:=u8n (s.getD 9 0)
 have b2:=zac s 2; have b6:=zac s 6
 have hn60:hn s<=60:=by unfold hn; omega
 have hN:IntKind.wrap IntKind.i64 ((4:Int)*Int.tmod (IntKind.wrap IntKind.i64 ((s.getD 0 0).toNat:Int)) (16:Int))=(hn s:Int):=by
   rw [zag (x:=((s.getD 0 0).toNat:Int)) ⟨by omega,by omega⟩,Int.tmod_eq_emod_of_nonneg (by omega),zag ⟨by omega,by omega⟩]
   unfold hn; omega
 have hA:((alln s:Nat):Int)=wAt s 2:=by unfold alln; omega
 have w0:IntKind.wrap IntKind.i64 ((s.getD 0 0).toNat:Int)=((s.getD 0 0).toNat:Int):=zag ⟨by omega,by omega⟩
 have w1:IntKind.wrap IntKind.i64 ((s.getD 1 0).toNat:Int)=((s.getD 1 0).toNat:Int):=zag ⟨by omega,by omega⟩
 have w8':IntKind.wrap IntKind.i64 ((s.getD 8 0).toNat:Int)=((s.getD 8 0).toNat:Int):=zag ⟨by omega,by omega⟩
 have w9:IntKind.wrap IntKind.i64 ((s.getD 9 0).toNat:Int)=((s.getD 9 0).toNat:Int):=zag ⟨by omega,by omega⟩
 have t1:IntKind.wrap IntKind.i64 (Int.tdiv (wAt s 6) (16384:Int))=wAt s 6 / 16384:=by rw [Int.tdiv_eq_ediv_of_nonneg (by omega),zag ⟨by omega,by omega⟩]
 have t2:Int.tmod (IntKind.wrap IntKind.i64 (Int.tdiv (wAt s 6) (8192:Int))) (2:Int)=wAt s 6 / 8192%2:=by rw [Int.tdiv_eq_ediv_of_nonneg (by omega),zag ⟨by omega,by omega⟩,Int.tmod_eq_emod_of_nonneg (by omega)]
 have t3:Int.tmod (wAt s 6) (8192:Int)=wAt s 6%8192:=Int.tmod_eq_emod_of_nonneg (by omega)
 have hwh:decide (wAt s 6 / 16384=(1:Int))=decide (wAt s 6 / 16384%2=1):=by
   by_cases e:wAt s 6 / 16384=1
   . rw [decide_eq_true e,decide_eq_true (by omega)]
   . rw [decide_eq_false e,decide_eq_false (by omega)]
 obtain ⟨z,hz⟩:=z7x k8
 have ht:(s.take (hn s)).length=hn s:=List.length_take_of_le k2
 have hsum:=zbbb (s.take (hn s)) (by rw [ht]; unfold Lim; omega) (by rw [ht]; unfold hn; omega)
 have hear:ear (ws (s.take (hn s)))=65535:=(zq4 _).2 ⟨k9,k10⟩
 have hsum':zec ((0:Int),(s.take (hn s),()))=some ((65535:Int),()):=by rw [hsum,hear]; rfl
 have cmax:¬ ((s.length:Int)<if false=true then if wAt s 2<(hn s:Int) then wAt s 2 else (hn s:Int) else if wAt s 2>(hn s:Int) then wAt s 2 else (hn s:Int)):=by
   simp only [Bool.false_eq_true,if_false]
   split <;> omega
 have r2:=zdg s 2 (by omega) hl
 have r6:=zdg s 6 (by omega) hl
 have r4:=zdg s 4 (by omega) hl
 have r12:=zxp s 12 (by omega) hl
 have r16:=zxp s 16 (by omega) hl
 unfold zd4 zen
 have hN2:IntKind.wrap IntKind.i64 ((4:Int)*Int.tmod ((s.getD 0 0).toNat:Int) (16:Int))=(hn s:Int):=by rw [w0] at hN; exact hN
 simp only [w0,w1,w8',w9,t3,hN2]
 refine ev_f (decide_eq_false (by omega)) (ev_g (decide_eq_true (by omega)) (ev_g rfl (zaa r2 (ev_f (decide_eq_false cmax) (zaa r6 (ev_g (decide_eq_true (by omega)) (zaa (zdn (x:=((s.getD 0 0).toNat:Int)) (a:=69) (b:=79) ?_) (ev_f rfl (ev_f (decide_eq_false (by show ¬ wAt s 2<(hn s:Int); omega)) (ev_f (decide_eq_false (by show ¬ (32768:Int)<=wAt s 6; omega)) (ev_g (decide_eq_true (by omega)) (zaa r4 (ev_g rfl (ev_g rfl (ev_g rfl (ev_g rfl (ev_g (decide_eq_true (by omega)) (ev_g (decide_eq_true (by omega)) (zaa r12 (zaa r16 ?_))))))))))))))))))))
 . unfold hn at k5; omega
 simp only [t1,t2,t3,Int.toNat_natCast,hwh]
 refine ev_g (decide_eq_true (by omega)) (ev_g (decide_eq_true (by omega)) (zaa (b:=(z,((0:Int),()))) ?_ (ev_f rfl (ev_g (decide_eq_true (by omega)) (zaa (b:=((65535:Int),())) hsum' (ev_f rfl (ev_r rfl)))))))
 exact hz
open Go Go.RowKit Go.Proofs.YthkhikdglmaiaaaGreatDoor.Abs
theorem ziqb (n:Int):UInt8.ofNat (Int.toNat (IntKind.wrap IntKind.u8 n))=byteOf n:=by rw [zu9]; rfl
theorem z7t (l:List Int) (hl:l.length<=1000):zbu (l,())=some (l.map byteOf,()):=by
 have:=zkw (tag:=920003) (f:=fun x=>(zay x).eval) (fun a=>∃ (i:Nat) (r:List UInt8),i<=l.length/\r.length=l.length/\(∀ j:Nat,j<i->r[j]?=(l.map byteOf)[j]?)/\a=((i:Int),(l,((l.length:Int),(r,()))))) (fun b=>b=(l.map byteOf,())) (fun a=>l.length-a.1.toNat)
  (by
   rintro _ ⟨i,r,hi,hr,hj,rfl⟩
   by_cases hlt:i<l.length
   . have hx:l[i]?=some l[i]:=List.getElem?_eq_getElem hlt
     have hy:r[i]?=some r[i]:=List.getElem?_eq_getElem (by omega)
     refine .inr ⟨(((i+1:Nat):Int),(l,((l.length:Int),(r.set i (UInt8.ofNat (Int.toNat (IntKind.wrap IntKind.u8 l[i]))),())))),?_,⟨i+1,_,by omega,by simpa using hr,fun j hjj=>?_,rfl⟩,?_⟩
     . show (zay _).eval=_
       unfold zay
       exact ev_t (by simp <;> omega) (ev_g (by simp) (zaa (b:=l[i]) (by simpa using hx) (ev_g (by simp <;> omega) (zaa (b:=r[i]) (by simpa using hy) (ev_g (w8gO _) (ev_g (by simp) (ev_r (by rw [zax i (by omega)]; simp))))))))
     . by_cases e:j=i
       . subst e
         rw [List.getElem?_set_self (by omega),ziqb,List.getElem?_map,hx]; rfl
       . rw [List.getElem?_set_ne (by omega)]; exact hj j (by omega)
     . show l.length-(((i+1:Nat):Int)).toNat<l.length-((i:Nat):Int).toNat; omega
   . refine .inl ⟨(l.map byteOf,()),?_,rfl⟩
     have e:r=l.map byteOf:=List.ext_getElem? fun j=>by
       by_cases q:j<i
       . exact hj j q
       . rw [List.getElem?_eq_none (by omega),List.getElem?_eq_none (by simp <;> omega)]
     subst e
     show (zay _).eval=_
     exact ev_f (by simp <;> omega) (ev_g (by simp) (ev_r rfl))) 18446744073709551616 ((0:Int),(l,((l.length:Int),(List.replicate (Int.toNat (l.length:Int)) (UInt8.ofNat 0),())))) ⟨0,_,by omega,by simp,fun j h=>by omega,rfl⟩ (by show l.length - _ < _; omega)
 obtain ⟨b,h1,rfl⟩:=this
 exact ev_g (by simp <;> omega) (ev_g rfl (ev_g (by simp) (zaa (show zfj _=_ from h1) (ev_r rfl))))
theorem zhq {x y:Int} (h:x%256=y%256):byteOf x=byteOf y:=by unfold byteOf; rw [h]
theorem znc (n:Int) (h:0<=n/\n<=4294967295):zas (n,())=some (wd n,()):=by
 have e1:IntKind.wrap IntKind.i64 (Int.tdiv n (256:Int))=n / 256:=by rw [Int.tdiv_eq_ediv_of_nonneg h.1]; exact zag ⟨by omega,by omega⟩
 have e2:Int.tmod n (256:Int)=n%256:=Int.tmod_eq_emod_of_nonneg h.1
 have:=z7t [IntKind.wrap IntKind.i64 (Int.tdiv n (256:Int)),Int.tmod n (256:Int)] (by simp)
 refine ev_g rfl (ev_g rfl (zaa this (ev_r ?_)))
 show ([byteOf (IntKind.wrap IntKind.i64 (Int.tdiv n (256:Int))),byteOf (Int.tmod n (256:Int))],())=_
 rw [e1,e2,zhq (show n%256%256=n%256 by omega)]
 rfl
theorem zz3 (x:Int) (h:U32 x):zb8 (x,())=some (lg x,()):=by
 have h1:0<=x/\x<=4294967295:=h
 have e1:IntKind.wrap IntKind.i64 (IntKind.wrap IntKind.u32 (Int.tdiv x (65536:Int)))=x / 65536:=by
  rw [Int.tdiv_eq_ediv_of_nonneg h1.1,zhv,show x / 65536%4294967296=x / 65536 by omega]; exact zag ⟨by omega,by omega⟩
 have e2:IntKind.wrap IntKind.i64 (Int.tmod x (65536:Int))=x%65536:=by
  rw [Int.tmod_eq_emod_of_nonneg h1.1]; exact zag ⟨by omega,by omega⟩
 have q1:=znc (x / 65536) (by omega)
 have q2:=znc (x%65536) (by omega)
 rw [<- e1] at q1; rw [<- e2] at q2
 refine ev_g rfl (zaa q1 (ev_g rfl (zaa q2 (ev_g (by simp [wd]) (ev_r ?_)))))
 rw [e1,e2]
 show (wd (x / 65536)++wd (x%65536),())=(wd (x / 65536)++wd x,())
 have:wd (x%65536)=wd x:=by
  unfold wd
  rw [zhq (show x%65536 / 256%256=x / 256%256 by omega),zhq (show x%65536%256=x%256 by omega)]
 rw [this]
theorem zvo {f t p n:Int} (hf:U32 f) (ht:U32 t) (hp:0<=p/\p<=255) (hn:0<=n/\n<=140737488355328):zr7 (f,(t,(p,(n,()))))=some (under f t p n,()):=by
 have e1:Int.tmod (IntKind.wrap IntKind.i64 (Int.tmod p (256:Int)+(256:Int))) (256:Int)=p:=by
  rw [Int.tmod_eq_emod_of_nonneg hp.1,zag ⟨by omega,by omega⟩,Int.tmod_eq_emod_of_nonneg (by omega)]; omega
 have e2:Int.tmod (IntKind.wrap IntKind.i64 (Int.tmod n (65536:Int)+(65536:Int))) (65536:Int)=n%65536:=by
  rw [Int.tmod_eq_emod_of_nonneg hn.1,zag ⟨by omega,by omega⟩,Int.tmod_eq_emod_of_nonneg (by omega)]; omega
 have q1:=znc p (by omega)
 have q2:=znc (n%65536) (by omega)
 rw [<- e1] at q1; rw [<- e2] at q2
 refine zaa (zz3 f hf) (zaa (zz3 t ht) (ev_g (by simp [lg,wd]) (ev_g rfl (ev_g rfl (zaa q1 (ev_g (by simp [lg,wd]) (ev_g rfl (ev_g rfl (zaa q2 (ev_g (by simp [lg,wd]) (ev_r ?_)))))))))))
 rw [e1,e2]
 have:wd (n%65536)=wd n:=by
  unfold wd
  rw [zhq (show n%65536 / 256%256=n / 256%256 by omega),zhq (show n%65536%256=n%256 by omega)]
 show (lg f++lg t++wd p++wd (n%65536),())=_
 rw [this]; rfl
theorem zj4b (s:List UInt8) (i:Nat) (hi:i+1=s.length) (hs:s.length<=Lim):zaf (s,((i:Int),()))=some (wAt s i,()):=by
 unfold Lim at hs
 have b0:=u8n (s.getD i 0)
 have g1:s.getD (i+1) 0=0:=by rw [List.getD_eq_getElem?_getD,List.getElem?_eq_none (by omega)]; rfl
 refine ev_g (by simp <;> omega) (ev_f (by rw [zax i (by omega)]; simp; omega) (ev_r ?_))
 have e1:IntKind.wrap IntKind.i64 ((s.getD i 0).toNat:Int)=((s.getD i 0).toNat:Int):=zag ⟨by omega,by omega⟩
 have e3:IntKind.wrap IntKind.i64 ((256:Int)*((s.getD i 0).toNat:Int))=(256:Int)*((s.getD i 0).toNat:Int):=zag ⟨by omega,by omega⟩
 simp only [Int.toNat_natCast]
 rw [e1,e3]
 unfold wAt wv
 rw [g1,Int.mul_comm]
 simp
theorem zmcb (s:List UInt8) (k:Nat) (h:2*k+1=s.length):ws s=ws (s.take (2*k))+(wAt s (2*k)).toNat:=by
 have e:s=s.take (2*k)++[s[2*k]]:=by
  conv=>lhs; rw [<- List.take_append_drop (2*k) s,List.drop_eq_getElem_cons (show 2*k<s.length by omega),List.drop_eq_nil_of_le (by omega)]
 have g0:s.getD (2*k) 0=s[2*k]:=by rw [List.getD_eq_getElem?_getD,List.getElem?_eq_getElem (by omega)]; rfl
 have g1:s.getD (2*k+1) 0=0:=by rw [List.getD_eq_getElem?_getD,List.getElem?_eq_none (by omega)]; rfl
 have hl:ws s=ws (s.take (2*k))+ws [s[2*k]]:=by
  conv=>lhs; rw [e]
  exact zmr _ _ (by simp <;> omega)
 rw [hl]
 unfold wAt wv
 rw [g0,g1]
 simp only [ws]
 simp
 omega
theorem zxh (a : Nat) (s : List UInt8) (hs : s.length <= Lim) : zec ((ear a : Int), (s, ())) = some ((ear (a + ws s) : Int), ()) := by
 unfold Lim at hs
 have key : ∀ (c k n : Nat), s.length <= 2 * k + 2 * c -> 2 * k <= s.length + 1 -> 2 * k ≠ s.length + 1 \/ c = 0 -> c < n -> ∀ b : Nat, b = a + (if 2 * k <= s.length then ws (s.take (2 * k)) else ws s) -> zb2 500002 (fun x => (zch x).eval) n (((2 * k : Nat) : Int), (s, ((ear b : Int), ()))) = some ((ear (a + ws s) : Int), ()) := by
  intro c
  induction c with
  | zero =>
   intro k n hk hk2 hk3 hn b hb
   obtain ⟨n, rfl⟩ : ∃ m, n = m + 1 := ⟨n - 1, by omega⟩
   have : b = a + ws s := by
     rw [hb]
     split
     . rw [List.take_of_length_le (by omega)]
     . rfl
   rw [this]
   exact zam (ev_f (decide_eq_false (by show ¬ ((2 * k : Nat) : Int) < (s.length : Int); omega)) (ev_r rfl))
  | succ c ih =>
   intro k n hk hk2 hk3 hn b hb
   obtain ⟨n, rfl⟩ : ∃ m, n = m + 1 := ⟨n - 1, by omega⟩
   rw [if_pos (by omega)] at hb
   by_cases hend : 2 * k < s.length
   case neg =>
     have : b = a + ws s := by rw [hb, List.take_of_length_le (by omega)]
     rw [this]
     exact zam (ev_f (decide_eq_false (by show ¬ ((2 * k : Nat) : Int) < (s.length : Int); omega)) (ev_r rfl))
   have hw : zaf (s, (((2 * k : Nat) : Int), ())) = some (wAt s (2 * k), ()) := by
     by_cases q : 2 * k + 1 < s.length
     . exact zdg s (2 * k) q (by unfold Lim; omega)
     . exact zj4b s (2 * k) (by omega) (by unfold Lim; omega)
   have he := zbib b (wAt s (2 * k)) (zac _ _)
   have hst : (zch (((2 * k : Nat) : Int), (s, ((ear b : Int), ())))).eval = some (.inl (IntKind.wrap IntKind.i64 (((2 * k : Nat) : Int) + (2 : Int)), (s, ((ear (b + (wAt s (2 * k)).toNat) : Int), ())))) :=
     ev_t (decide_eq_true (by show ((2 * k : Nat) : Int) < (s.length : Int); omega)) (zaa hw (zaa he (ev_r rfl)))
   rw [za2 hst]
   have n2 : IntKind.wrap IntKind.i64 (((2 * k : Nat) : Int) + (2 : Int)) = ((2 * (k + 1) : Nat) : Int) := by rw [zag (x := ((2 * k : Nat) : Int) + 2) ⟨by omega, by omega⟩]; omega
   rw [n2]
   by_cases q : 2 * k + 1 < s.length
   . refine ih (k + 1) n (by omega) (by omega) (by omega) (by omega) _ ?_
     rw [if_pos (by omega), z4p s k q, hb]; omega
   . have hl := zmcb s k (by omega)
     -- the last word has but one byte
     obtain ⟨n, rfl⟩ : ∃ m, n = m + 1 := ⟨n - 1, by omega⟩
     have : b + (wAt s (2 * k)).toNat = a + ws s := by rw [hb, hl]; omega
     rw [this]
     exact zam (ev_f (decide_eq_false (by show ¬ ((2 * (k + 1) : Nat) : Int) < (s.length : Int); omega)) (ev_r rfl))
 have := key (s.length / 2 + 1) 0 18446744073709551616 (by omega) (by omega) (by omega) (by omega) a (by rw [if_pos (by omega)]; simp [ws])
 exact zaa (show zfg ((0 : Int), (s, ((ear a : Int), ()))) = _ from this) (ev_r rfl)
open Go Go.RowKit Go.Proofs.YthkhikdglmaiaaaGreatDoor.Abs
theorem zanb {s:List UInt8} (hs:s.length<=1000) {l:List TOption} (h:zcq (s,())=some (l,(true,()))):∃ (l':List TOption) (m:Nat),s=obs l'++List.replicate m 0 /\ ∀ o∈l',okR o:=by
 rcases zq1 s.length s [] 18446744073709551616 (by omega) (by simpa using hs) (by omega) with e | ⟨l',rest,e1,e2,e3⟩
 . have:zcq (s,())=some ([],(false,())):=ev_g rfl (zaa e rfl)
   rw [this] at h; cases h
 . have hr:rest.length<=1000:=by have:=congrArg List.length e1; simp at this; omega
   have z:=zu7 rest l' hr
   rw [List.nil_append] at e3
   cases hh:hit (fun b:UInt8=>decide (b.toNat≠0)) rest with
   | some q =>
    rw [hh] at z
    have:zcq (s,())=some ([],(false,())):=ev_g rfl (zaa e3 (ev_g (by simp) (zaa z rfl)))
    rw [this] at h; cases h
   | none =>
    refine ⟨l',rest.length,?_,e2⟩
    have:rest=List.replicate rest.length 0:=List.eq_replicate_iff.2 ⟨rfl,fun b hb=>by
     have:=zcb.1 hh b hb
     have h0:b.toNat=0:=by simpa using this
     exact UInt8.toNat_inj.1 h0⟩
    rw [<- this]; exact e1
theorem z25:∀ l:List TOption,l.length<=(obs l).length
 | []=>by simp
 | o :: l=>by
  have:=z25 l
  rw [znn,List.length_append,List.length_cons]
  have:1<=(ob o).length:=by unfold ob; split <;> simp
  omega
theorem zbxb:∀ (l:List TOption) (m k:Nat),(∀ o∈l,okR o)->l.length<k->(obs l++List.replicate m 0).length<=1000->(zbn k).1 (obs l++List.replicate m 0,())=some (l,(true,()))
 | [],m,k,_,hk,_=>by
  obtain ⟨k,rfl⟩:∃ q,k=q+1:=⟨k-1,by simp at hk; omega⟩
  show (zbt (zbn k).1 (List.replicate m 0,())).eval=_
  exact ev_t (decide_eq_true (by show ((Lib.countByte (List.replicate m (0:UInt8)) 0:Nat):Int)=((List.replicate m (0:UInt8)).length:Int); unfold Lib.countByte; rw [List.count_replicate_self]; simp)) (ev_r rfl)
 | o :: l,m,k,ho,hk,hs=>by
  obtain ⟨k,rfl⟩:∃ q,k=q+1:=⟨k-1,by simp at hk; omega⟩
  obtain ⟨rest,hrest⟩:∃ rest,rest=obs l++List.replicate m (0:UInt8):=⟨_,rfl⟩
  have hsl:(obs l++List.replicate m (0:UInt8)).length<=1000:=by rw [znn] at hs; simp at hs ⊢; omega
  have ih:=zbxb l m k (fun x hx=>ho x (List.mem_cons_of_mem _ hx)) (by simp at hk; omega) hsl
  rw [<- hrest] at ih hsl
  have hll:l.length<=1000:=by have:=z25 l; have:(obs l).length<=rest.length:=(by rw [hrest]; simp); omega
  obtain ⟨c1,c2,c3,c4⟩:=ho o List.mem_cons_self
  have es:obs (o :: l)++List.replicate m 0=ob o++rest:=by rw [znn,hrest,List.append_assoc]
  rw [es] at hs ⊢
  have hb:((byteOf o.kind).toNat:Int)=o.kind:=by rw [zdx]; omega
  show (zbt (zbn k).1 (ob o++rest,())).eval=_
  have cnt:∀ t:List UInt8,¬ ((Lib.countByte (byteOf o.kind :: t) 0:Nat):Int)=((byteOf o.kind :: t).length:Int):=by
    intro t
    unfold Lib.countByte
    have hne:byteOf o.kind≠0:=by
     intro e
     rw [e] at hb
     have:((0:UInt8).toNat:Int)=0:=rfl
     omega
    rw [List.count_cons_of_ne hne,List.length_cons]
    have:=List.count_le_length (a:=(0:UInt8)) (l:=t)
    omega
  by_cases h1:1<o.kind
  . have eo:ob o=byteOf o.kind :: byteOf (o.data.length+2) :: o.data:=by unfold ob; rw [if_pos h1]
    rw [eo] at hs ⊢
    have hc:((byteOf ((o.data.length:Int)+2)).toNat:Int)=(o.data.length:Int)+2:=by rw [zdx]; omega
    obtain ⟨s,hss⟩:∃ s,s=byteOf o.kind :: byteOf (o.data.length+2) :: o.data++rest:=⟨_,rfl⟩
    have hcs:¬ ((Lib.countByte s 0:Nat):Int)=(s.length:Int):=by rw [hss]; exact cnt _
    have g0:List.getD s (0:Nat) (0:UInt8)=byteOf o.kind:=by rw [hss]; rfl
    have g1:List.getD s (1:Nat) (0:UInt8)=byteOf (o.data.length+2):=by rw [hss]; rfl
    have sl:s.length=o.data.length+rest.length+2:=by rw [hss]; simp <;> omega
    have w0:IntKind.wrap IntKind.i64 ((byteOf o.kind).toNat:Int)=o.kind:=by rw [hb]; exact zag ⟨by omega,by omega⟩
    have w1:IntKind.wrap IntKind.i64 ((byteOf ((o.data.length:Int)+2)).toNat:Int)=((o.data.length+2:Nat):Int):=by rw [hc,zag ⟨by omega,by omega⟩]; omega
    have ed:List.drop (Int.toNat ((o.data.length+2:Nat):Int)) (List.take (Int.toNat (s.length:Int)) s)=rest:=by
     rw [zm5,Int.toNat_natCast,hss]
     show List.drop (o.data.length) (o.data++rest)=rest
     simp
    have et:List.drop (2:Nat) (List.take (Int.toNat ((o.data.length+2:Nat):Int)) s)=o.data:=by
     rw [Int.toNat_natCast,hss]
     show List.take (o.data.length) (o.data++rest)=o.data
     simp
    rw [<- hss]
    unfold zbt
    simp only [g0,g1,w0,w1,hb]
    refine ev_f (decide_eq_false hcs) (ev_g (decide_eq_true (by omega)) (ev_f (decide_eq_false (by omega)) (ev_g (decide_eq_true (by omega)) (ev_g (decide_eq_true (by omega)) (ev_t (decide_eq_true h1) (ev_f (decide_eq_false (by omega)) (ev_g (decide_eq_true (by omega)) (zaa (zdn ⟨by omega,by omega⟩) (ev_f rfl (ev_g (decide_eq_true (by omega)) (ev_g (decide_eq_true (by omega)) (ev_g (decide_eq_true (by omega)) (zaa (b:=(l,(true,()))) (by rw [ed]; exact ih) (ev_f rfl (ev_g (decide_eq_true (by simp only [List.length_cons,List.length_nil]; omega)) (ev_r ?_))))))))))))))))
    rw [et,zag (x:=o.kind) ⟨by omega,by omega⟩]
    rfl
  . have k1:o.kind=1:=by omega
    have d0:=c4 k1
    have eo:ob o=[byteOf o.kind]:=by unfold ob; rw [if_neg h1]
    rw [eo] at hs ⊢
    obtain ⟨s,hss⟩:∃ s,s=[byteOf o.kind]++rest:=⟨_,rfl⟩
    have hcs:¬ ((Lib.countByte s 0:Nat):Int)=(s.length:Int):=by rw [hss]; exact cnt _
    have g0:List.getD s (0:Nat) (0:UInt8)=byteOf o.kind:=by rw [hss]; rfl
    have sl:s.length=rest.length+1:=by rw [hss]; simp <;> omega
    have w0:IntKind.wrap IntKind.i64 ((byteOf o.kind).toNat:Int)=o.kind:=by rw [hb]; exact zag ⟨by omega,by omega⟩
    have ed:List.drop (1:Nat) (List.take (Int.toNat (s.length:Int)) s)=rest:=by
     rw [zm5,hss]; rfl
    rw [<- hss]
    unfold zbt
    simp only [g0]
    refine ev_f (decide_eq_false hcs) (ev_g (decide_eq_true (by omega)) (ev_f (decide_eq_false (by omega)) (ev_g (decide_eq_true (by omega)) (ev_g (decide_eq_true (by omega)) (ev_f (decide_eq_false (by omega)) (ev_g (decide_eq_true (by omega)) (zaa (b:=(l,(true,()))) (by rw [ed]; exact ih) (ev_f rfl (ev_g (decide_eq_true (by simp only [List.length_cons,List.length_nil]; omega)) (ev_r ?_))))))))))
    rw [w0]
    show (⟨o.kind,[]⟩ :: l,(true,()))=(o :: l,(true,()))
    have:o=⟨o.kind,[]⟩:=by cases o; simp at d0; rw [d0]
    rw [<- this]
theorem zgnb {d:List UInt8} {f t:Int} (hf:U32 f) (ht:U32 t) (h:TcOk d f t):∃ z,zdf (d,(f,(t,())))=some z/\z.2.2.2.2.2.2.2.2.2.1=0:=by
 obtain ⟨h1,h2,h3,h4,⟨l,hp⟩,h6⟩:=h
 have hb:=u8n (d.getD 12 0)
 have hn:tn d<=60:=zpob d
 have hsl:d.length<=65515:=by omega
 have hlim:d.length<=Lim:=by unfold Lim; omega
 obtain ⟨l',m,q1,q2⟩:=zanb (by simp <;> omega) hp
 have hol:(obs l'++List.replicate m 0).length<=40:=by rw [<- q1]; simp; omega
 have ho:zid (List.drop 20 (List.take (tn d) d),())=some (l',(true,())):=by
  rw [q1]
  exact zbxb l' m 64 q2 (by have:=z25 l'; simp at hol; omega) (by omega)
 have hu:=zvo (f:=f) (t:=t) (p:=6) (n:=(d.length:Int)) hf ht (by omega) (by omega)
 have s1:=zxh 0 (under f t 6 (d.length:Int)) (by simp; unfold Lim; omega)
 have s2:=zxh (0+ws (under f t 6 (d.length:Int))) d hlim
 have e65:ear (0+ws (under f t 6 (d.length:Int))+ws d)=65535:=by
  rw [Nat.zero_add,<- zmr _ _ (by simp)]
  exact (zq4 _).2 h6
 rw [e65] at s2
 have htn:(d.getD 12 0).toNat=4*tn d:=by unfold tn; omega
 unfold zdf zds
 simp only [tcN]
 refine ⟨_,ev_f (decide_eq_false (by omega)) (ev_g (decide_eq_true (by omega)) (ev_g rfl (ev_f (show decide ((d.length:Int)<(tn d:Int))=false from decide_eq_false (by omega)) (ev_g (decide_eq_true (by omega)) (ev_g rfl (ev_f (show decide ((tn d:Int)<20)=false from decide_eq_false (by omega)) (ev_g (decide_eq_true (by omega))
  (ev_f (show (!decide (IntKind.wrap IntKind.i64 ((d.getD 12 0).toNat:Int)=IntKind.wrap IntKind.i64 ((4:Int)*(tn d:Int))))=false by rw [zoe,zag (x:=(4:Int)*(tn d:Int)) ⟨by omega,by omega⟩,decide_eq_true (by omega)]; rfl)
  (ev_f (show decide (IntKind.wrap IntKind.i64 ((65455:Int)+(tn d:Int))<(d.length:Int))=false by rw [zag (x:=(65455:Int)+(tn d:Int)) ⟨by omega,by omega⟩]; exact decide_eq_false (by omega))
  (ev_g (show decide ((0:Int)<=20/\(20:Int)<=(tn d:Int)/\(tn d:Int)<=(d.length:Int))=true from decide_eq_true (by omega)) (zaa ho (ev_f rfl (zaa hu (zaa s1 (zaa s2 (ev_f rfl
  (zaa (zdg d 0 (by omega) hlim) (zaa (zdg d 2 (by omega) hlim) (zaa (zxp d 4 (by omega) hlim) (zaa (zxp d 8 (by omega) hlim) (ev_g (decide_eq_true (by omega)) (zaa (zdg d 14 (by omega) hlim) (zaa (zdg d 18 (by omega) hlim) (ev_g (show decide ((0:Int)<=(tn d:Int)/\(tn d:Int)<=(d.length:Int)/\(d.length:Int)<=(d.length:Int))=true from decide_eq_true (by omega)) (ev_r rfl))))))))))))))))))))))))),rfl⟩
theorem z3i {d:List UInt8} {f t:Int} (hf:U32 f) (ht:U32 t) (hl:d.length<=Lim) (h:DgOk d f t):∃ z,zgp (d,(f,(t,())))=some z/\z.2.2.2.1=0:=by
 obtain ⟨h1,h2,h3,h4⟩:=h
 have w0:=zac d 6
 have a4:=zdg d 4 (by omega) hl
 have a0:=zdg d 0 (by omega) hl
 have a2:=zdg d 2 (by omega) hl
 have a6:=zdg d 6 (by omega) hl
 unfold Lim at hl
 refine ⟨(wAt d 0,(wAt d 2,(List.drop 8 (List.take (Int.toNat (wAt d 4)) d),((0:Int),())))),ev_f (decide_eq_false (by omega)) (zaa a4 (ev_f (decide_eq_false (by show ¬ (d.length:Int)<wAt d 4; omega)) (zaa a4 (zaa (zdn ⟨h1,h3⟩) (ev_f rfl (zaa a6 ?_)))))),rfl⟩
 by_cases hz:wAt d 6=0
 . exact ev_f (decide_eq_false (by show ¬ (0:Int)<wAt d 6; omega)) (zaa a0 (zaa a2 (ev_g (decide_eq_true (by show (0:Int)<=8/\(8:Int)<=wAt d 4/\wAt d 4<=(d.length:Int); omega)) (ev_r rfl))))
 . have hu:=zvo (f:=f) (t:=t) (p:=17) (n:=wAt d 4) hf ht (by omega) (by omega)
   have hs:=h4 hz
   have s1:=zxh 0 (under f t 17 (wAt d 4)++List.drop (0:Nat) (List.take (Int.toNat (wAt d 4)) d)) (by simp; unfold Lim; omega)
   rw [Nat.zero_add,List.drop_zero,(zq4 _).2 hs] at s1
   exact ev_t (decide_eq_true (by show (0:Int)<wAt d 6; omega)) (zaa hu (ev_g (decide_eq_true (by show (0:Int)<=0/\(0:Int)<=wAt d 4/\wAt d 4<=(d.length:Int); omega)) (ev_g (decide_eq_true (by simp <;> omega)) (zaa s1 (ev_f rfl (zaa a0 (zaa a2 (ev_g (decide_eq_true (by show (0:Int)<=8/\(8:Int)<=wAt d 4/\wAt d 4<=(d.length:Int); omega)) (ev_r rfl)))))))))
theorem zdub {s:List UInt8} (h:EndOk s) (hl:s.length<=Lim):∃ z,zoy (s,())=some z/\z.2.2.2.2.2.1=0:=by
 obtain ⟨h1,h2,⟨h3,h3'⟩,h4,h5⟩:=h
 obtain ⟨u1,u2⟩:=z0a s
 have hd:(pk s).data.length<=Lim:=by show ((s.take (alln s)).drop (hn s)).length<=_; simp; omega
 have tx:=zn0b h1 hl
 rcases h2 with h2 | h2
 . have p6:(pk s).proto=6:=by show ((s.getD 9 0).toNat:Int)=6; omega
   have ok:=h4 h2
   obtain ⟨z,z1,z2⟩:=zgnb u1 u2 ok
   have hlen:20<=(pk s).data.length:=by have:=ok.n20; have:=ok.nle; omega
   exact ⟨_,zaa tx (ev_f rfl (ev_f (by show (!decide ((pk s).proto=6))=false; rw [decide_eq_true p6]; rfl) (ev_f h3 (ev_f (decide_eq_false (by show ¬ (0:Int)<(pk s).start; omega)) (ev_t (decide_eq_true p6) (zaa z1 (ev_f (by show (!decide (z.2.2.2.2.2.2.2.2.2.1=0))=false; rw [decide_eq_true z2]; rfl) (zaa (zdg (pk s).data 0 (by omega) hd) (zaa (zdg (pk s).data 2 (by omega) hd) (ev_r rfl)))))))))),rfl⟩
 . have p17:(pk s).proto=17:=by show ((s.getD 9 0).toNat:Int)=17; omega
   have ok:=h5 h2
   obtain ⟨z,z1,z2⟩:=z3i u1 u2 hd ok
   have hlen:8<=(pk s).data.length:=by have:=ok.n8; have:=ok.nle; omega
   exact ⟨_,zaa tx (ev_f rfl (ev_t (by show (!decide ((pk s).proto=6))=true; rw [decide_eq_false (by omega)]; rfl) (ev_f (by show (!decide ((pk s).proto=17))=false; rw [decide_eq_true p17]; rfl) (ev_f h3 (ev_f (decide_eq_false (by show ¬ (0:Int)<(pk s).start; omega)) (ev_f (decide_eq_false (by show ¬ (pk s).proto=6; omega)) (zaa z1 (ev_f (by show (!decide (z.2.2.2.1=0))=false; rw [decide_eq_true z2]; rfl) (zaa (zdg (pk s).data 0 (by omega) hd) (zaa (zdg (pk s).data 2 (by omega) hd) (ev_r rfl))))))))))),rfl⟩
theorem z8s:∃ z,zoy ([],())=some z/\z.2.2.2.2.2.1≠0:=⟨_,zaa (show zd4 ([],())=_ from ev_t rfl (ev_r rfl)) (ev_t rfl (ev_r rfl)),by decide⟩
open Go Go.RowKit Go.Proofs.YthkhikdglmaiaaaGreatDoor.Abs
theorem z8p (l:List TRule) (hl:l.length<8796093022208):z1c (l,(l,()))=some (true,()):=by
 have lp:=za1 (tag:=170004) (f:=fun x=>(zj9 x).eval) (l:=l) (fun i=>((i:Int),(l,(l,((l.length:Int),()))))) (fun _=>false) (fun _=>Sum.inr ())
  (fun i x hx=>by
   have hi:=(List.getElem?_eq_some_iff.1 hx).1
   have e1:IntKind.wrap IntKind.i64 ((i:Int)+(1:Int))=((i+1:Nat):Int):=wi _ (by omega)
   have hg:l[Int.toNat (i:Int)]?=some x:=by simpa using hx
   exact ev_t (decide_eq_true (by omega)) (ev_g (decide_eq_true (by omega)) (zaa hg (ev_g (decide_eq_true (by omega)) (zaa hg (ev_f (by simp) (ev_r (by rw [e1]))))))))
  (ev_f (decide_eq_false (by omega)) (ev_r rfl)) 18446744073709551616 (by omega)
 exact ev_f (by simp) (zaa (show zka ((0:Int),(l,(l,((l.length:Int),()))))=_ from lp) rfl)
theorem z31 (l:List TMeter) (hl:l.length<8796093022208):zwa (l,(l,()))=some (true,()):=by
 have lp:=za1 (tag:=180004) (f:=fun x=>(zi3 x).eval) (l:=l) (fun i=>((i:Int),(l,(l,((l.length:Int),()))))) (fun _=>false) (fun _=>Sum.inr ())
  (fun i x hx=>by
   have hi:=(List.getElem?_eq_some_iff.1 hx).1
   have e1:IntKind.wrap IntKind.i64 ((i:Int)+(1:Int))=((i+1:Nat):Int):=wi _ (by omega)
   have hg:l[Int.toNat (i:Int)]?=some x:=by simpa using hx
   exact ev_t (decide_eq_true (by omega)) (ev_g (decide_eq_true (by omega)) (zaa hg (ev_g (decide_eq_true (by omega)) (zaa hg (ev_f (by simp) (ev_r (by rw [e1]))))))))
  (ev_f (decide_eq_false (by omega)) (ev_r rfl)) 18446744073709551616 (by omega)
 exact ev_f (by simp) (zaa (show zi4 ((0:Int),(l,(l,((l.length:Int),()))))=_ from lp) rfl)
theorem z8o (l:List TTalk) (hl:l.length<8796093022208):z1a (l,(l,()))=some (true,()):=by
 have lp:=za1 (tag:=190004) (f:=fun x=>(zj7 x).eval) (l:=l) (fun i=>((i:Int),(l,(l,((l.length:Int),()))))) (fun _=>false) (fun _=>Sum.inr ())
  (fun i x hx=>by
   have hi:=(List.getElem?_eq_some_iff.1 hx).1
   have e1:IntKind.wrap IntKind.i64 ((i:Int)+(1:Int))=((i+1:Nat):Int):=wi _ (by omega)
   have hg:l[Int.toNat (i:Int)]?=some x:=by simpa using hx
   exact ev_t (decide_eq_true (by omega)) (ev_g (decide_eq_true (by omega)) (zaa hg (ev_g (decide_eq_true (by omega)) (zaa hg (ev_f (by simp) (ev_r (by rw [e1]))))))))
  (ev_f (decide_eq_false (by omega)) (ev_r rfl)) 18446744073709551616 (by omega)
 exact ev_f (by simp) (zaa (show zj8 ((0:Int),(l,(l,((l.length:Int),()))))=_ from lp) rfl)
theorem zdnb (l:List TMap) (hl:l.length<8796093022208):z5v (l,(l,()))=some (true,()):=by
 have lp:=za1 (tag:=200004) (f:=fun x=>(zlp x).eval) (l:=l) (fun i=>((i:Int),(l,(l,((l.length:Int),()))))) (fun _=>false) (fun _=>Sum.inr ())
  (fun i x hx=>by
   have hi:=(List.getElem?_eq_some_iff.1 hx).1
   have e1:IntKind.wrap IntKind.i64 ((i:Int)+(1:Int))=((i+1:Nat):Int):=wi _ (by omega)
   have hg:l[Int.toNat (i:Int)]?=some x:=by simpa using hx
   exact ev_t (decide_eq_true (by omega)) (ev_g (decide_eq_true (by omega)) (zaa hg (ev_g (decide_eq_true (by omega)) (zaa hg (ev_f (by simp) (ev_r (by rw [e1]))))))))
  (ev_f (decide_eq_false (by omega)) (ev_r rfl)) 18446744073709551616 (by omega)
 exact ev_f (by simp) (zaa (show zlq ((0:Int),(l,(l,((l.length:Int),()))))=_ from lp) rfl)
theorem z8j {h:Hs} {now:Int} (k:Fine h now) {ins:Bool} {s:List UInt8} {h':Hs} {out:List UInt8} {why:Int} (hg:Goes h ins s now h' out why) :
  (0<=why/\why<=5)/\(h'.out=h.out/\h'.lt=h.lt/\h'.st=h.st/\h'.life=h.life/\h'.rate=h.rate/\h'.most=h.most/\h'.rules=h.rules/\h'.els=h.els)/\(why=0->EndOk out):=by
 have same:∀ x:Hs,(x.out=x.out/\x.lt=x.lt/\x.st=x.st/\x.life=x.life/\x.rate=x.rate/\x.most=x.most/\x.rules=x.rules/\x.els=x.els):=fun x=>⟨rfl,rfl,rfl,rfl,rfl,rfl,rfl,rfl⟩
 cases hg with
 | broken h1=>exact ⟨by decide,same _,fun q=>by cases q⟩
 | other h1 h2 h3=>exact ⟨by decide,same _,fun q=>by cases q⟩
 | life h1 h3=>exact ⟨by decide,same _,fun q=>by cases q⟩
 | much t h1 h2 h3 h4=>exact ⟨by decide,⟨rfl,rfl,rfl,rfl,rfl,rfl,rfl,rfl⟩,fun q=>by cases q⟩
 | leaves t _ _ _ h1 h2 h3 h4 h5 =>
  cases h5 with
  | rules g1 g2=>exact ⟨by decide,⟨rfl,rfl,rfl,rfl,rfl,rfl,rfl,rfl⟩,fun q=>by cases q⟩
  | talk l1 g1 g2 g3=>exact ⟨by decide,⟨rfl,rfl,rfl,rfl,rfl,rfl,rfl,rfl⟩,fun q=>by cases q⟩
  | full l1 e g1 g2 he g3=>exact ⟨by decide,⟨rfl,rfl,rfl,rfl,rfl,rfl,rfl,rfl⟩,fun q=>by cases q⟩
  | out l1 port L2 S2 mm g1 g2 g3 g4=>exact ⟨by decide,⟨rfl,rfl,rfl,rfl,rfl,rfl,rfl,rfl⟩,fun _=>(zdab (s:=t) h2.ends k.2.1.out g4).1⟩
 | enters t _ _ _ h1 h2 h3 h4 h5 h6 =>
  cases h6 with
  | none g1=>exact ⟨by decide,⟨rfl,rfl,rfl,rfl,rfl,rfl,rfl,rfl⟩,fun q=>by cases q⟩
  | unknown r g1 g2 g3=>exact ⟨by decide,⟨rfl,rfl,rfl,rfl,rfl,rfl,rfl,rfl⟩,fun q=>by cases q⟩
  | talk r l1 g1 g2 g3 g4=>exact ⟨by decide,⟨rfl,rfl,rfl,rfl,rfl,rfl,rfl,rfl⟩,fun q=>by cases q⟩
  | ins r l1 g1 g2 g3 g4=>exact ⟨by decide,⟨rfl,rfl,rfl,rfl,rfl,rfl,rfl,rfl⟩,fun _=>(zjrb (s:=t) h2.ends g4.1 g4.2).1⟩
theorem z8k {h:Hs} {ins:Bool} {s:List UInt8} {now:Int} {h':Hs} {out:List UInt8} {why:Int} (k:Goes h ins s now h' out why) (hw:why≠0):out=[]:=by
 cases k with
 | leaves t _ _ _ h1 h2 h3 h4 h5=>cases h5 <;> first | rfl | exact absurd rfl hw
 | enters t _ _ _ h1 h2 h3 h4 h5 h6=>cases h6 <;> first | rfl | exact absurd rfl hw
 | _=>rfl
theorem zoib {s:List UInt8} (h:∀ b∈s,b=48):Lib.contains s [49]=false:=by
 unfold Lib.contains
 rcases Lib.index_spec s [49] with ⟨h1,_⟩ | ⟨i,_,h2,h3,_⟩
 . rw [h1]; rfl
 . exfalso
   have:[(49:UInt8)].isPrefixOf (s.drop i)=true:=h3
   cases hd:s.drop i with
   | nil=>rw [hd] at this; cases this
   | cons b r =>
    rw [hd] at this
    have hb:b∈s:=List.mem_of_mem_drop (by rw [hd]; exact List.mem_cons_self)
    have h48:=h b hb
    subst h48
    simp at this
open Go Go.RowKit Go.Proofs.YthkhikdglmaiaaaGreatDoor.Abs Go.Proofs.YthkhikdglmaiaaaGreatDoor.Bits
theorem zkub {α β γ:Type} {x:γ} {f:β->Tr α} {g:γ->Tr α} {r:Option α} (h:(g x).eval=r):(Tr.sum (.inr x) f g).eval=r:=h
theorem zc9 (a b c:Int):zab (a,(b,(c,())))=some (decide (b<=a)&&decide (a<=c),()):=by
 simp only [zab,zcv,Tr.eval,zk6]
theorem zzc {x:TTalk} (hf:zqt x=true):zjh (x.from',(x.to,(x.fromPort,(x.toPort,(x.state,(x.over,(x.at',())))))))=some (true,()):=by
 obtain ⟨h1,h2,h3,h4⟩:=ztg hf
 have hs:=za3b h4
 simp only [sts,List.mem_cons,List.not_mem_nil,or_false,Prod.mk.injEq] at hs
 simp only [zue,z22,Bool.and_eq_true,decide_eq_true_eq,Bool.not_eq_true',decide_eq_false_iff_not] at h1
 obtain ⟨⟨p1,p2⟩,⟨q1,q2⟩,hne⟩:=h1
 have p1':0<=x.fromPort:=p1
 have p2':x.fromPort<=65535:=p2
 have q1':0<=x.toPort:=q1
 have q2':x.toPort<=65535:=q2
 unfold zjh zgl
 refine zaa (zc9 _ _ _) (ev_t (by simp <;> omega) (zaa (zc9 _ _ _) (ev_f (by simp <;> omega) (zaa (b:=((turn (rdOf x)).a,((turn (rdOf x)).b,((turn (rdOf x)).p,((turn (rdOf x)).q,()))))) rfl (ev_f ((zzw x (turn (rdOf x))).trans (decide_eq_false hne)) (zaa (zc9 _ _ _) (ev_f (by simp <;> omega) (zaa (zc9 _ _ _) (ev_f (by simp <;> omega) (ev_g (by simp <;> omega) ?_))))))))))
 have hov:∀ (lo hi:Int),lo<=x.over/\x.over<=hi->(decide (lo<=x.over)&&decide (x.over<=hi))=true:=fun lo hi h=>by simp; exact h
 have hst:x.state=1\/x.state=2\/x.state=3\/x.state=4:=by omega
 rcases hst with h | h | h | h <;> rw [h]
 . exact zaa (b:=0) rfl (ev_g (by decide) (zaa (b:=0) rfl (zaa (zc9 _ _ _) (ev_r (by rw [hov 0 0 (by omega)])))))
 . exact zaa (b:=0) rfl (ev_g (by decide) (zaa (b:=0) rfl (zaa (zc9 _ _ _) (ev_r (by rw [hov 0 0 (by omega)])))))
 . exact zaa (b:=0) rfl (ev_g (by decide) (zaa (b:=2) rfl (zaa (zc9 _ _ _) (ev_r (by rw [hov 0 2 (by omega)])))))
 . exact zaa (b:=3) rfl (ev_g (by decide) (zaa (b:=3) rfl (zaa (zc9 _ _ _) (ev_r (by rw [hov 3 3 (by omega)])))))
theorem zw3 {l:List TTalk} (hg:Good l):zhz (l,())=some (0,()):=by
 have hlen:=hg.1
 have hno:∀ T:List TTalk,hit (fun _:TTalk=>false) T=none:=fun T=>zcb.2 fun _ _=>rfl
 unfold zhz ze3
 refine ev_f (by simp <;> omega) ?_
 have:=za1 (tag:=550004) (f:=fun x=>(zbc x).eval) (l:=l) (fun i=>((i:Int),(l,(l,((l.length:Int),()))))) (fun _=>false)
  (fun q=>match q with | some q=>Sum.inl ((4:Int),()) | none=>Sum.inr ())
  (fun i x hx=>by
   have hi:=(List.getElem?_eq_some_iff.1 hx).1
   show (zbc _).eval=_
   unfold zbc
   refine ev_t (by simp <;> omega) (ev_g (by simp) (zaa (show l[Int.toNat (i:Int)]?=some x by simpa using hx) (zaa (zzc (hg.2.1 x (List.mem_of_getElem? hx))) (ev_f rfl (ev_g (by simp <;> omega) ?_)))))
   have inner:=za1 (tag:=550009) (f:=fun x=>(zbb x).eval) (l:=l.take i) (fun k=>((k:Int),(l.take i,(l,(l,((l.length:Int),((i:Int),(((l.take i).length:Int),(x.from',(x.to,(x.fromPort,(x.toPort,(x.state,(x.over,(x.at',()))))))))))))))) (fun _=>false)
    (fun q=>match q with | some q=>Sum.inl ((4:Int),()) | none=>Sum.inr (l,(l,((l.length:Int),((i:Int),())))))
    (fun k y hy=>by
     have hk:=(List.getElem?_eq_some_iff.1 hy).1
     have hki:k<i:=by simp at hk; omega
     have hyl:l[k]?=some y:=by rw [List.getElem?_take,if_pos hki] at hy; exact hy
     obtain ⟨hi',hxe⟩:=List.getElem?_eq_some_iff.1 hx
     obtain ⟨hk',hye⟩:=List.getElem?_eq_some_iff.1 hyl
     have hp:=(List.pairwise_iff_getElem.1 hg.2.2) k i hk' hi' hki
     rw [hxe,hye] at hp
     have hm:=hp.2
     simp only [meet,Bool.or_eq_false_iff,decide_eq_false_iff_not] at hm
     show (zbb _).eval=_
     unfold zbb
     refine ev_t (by simp at hk ⊢; omega) (ev_g (by simp) (zaa (show (l.take i)[Int.toNat (k:Int)]?=some y by simpa using hy) (ev_f (by simp; exact hp.1) (ev_f ((zzw y (rdOf x)).trans (decide_eq_false fun e=>hm.1 e.symm)) (zaa (b:=((turn (rdOf x)).a,((turn (rdOf x)).b,((turn (rdOf x)).p,((turn (rdOf x)).q,()))))) rfl (ev_f ((zzw y (turn (rdOf x))).trans (decide_eq_false fun e=>hm.2 (by rw [e,zjb]))) (ev_r (by rw [zax k (by omega)]))))))))
    )
    (by show (zbb _).eval=_; exact ev_f (by simp) (ev_r rfl)) 18446744073709551616 (by simp <;> omega)
   rw [hno] at inner
   have inner':ze4 _=_:=inner
   refine zaa (b:=Sum.inr (l,(l,((l.length:Int),((i:Int),()))))) (by simpa using inner') (zkub (ev_r (by rw [zax i (by omega)]))))
  (by show (zbc _).eval=_; exact ev_f (by simp) (ev_r rfl)) 18446744073709551616 (by omega)
 rw [hno] at this
 exact zaa (show ze5 ((0:Int),(l,(l,((l.length:Int),()))))=_ from this) rfl
open Go Go.RowKit Go.Proofs.YthkhikdglmaiaaaGreatDoor.Abs
theorem z5h {a l:Int} (ha:U32 a) (h:netB a l=true):zsf (a,(l,()))=some (true,()):=by
 have ha':0<=a/\a<=4294967295:=ha
 unfold netB at h
 simp only [Bool.and_eq_true,decide_eq_true_eq] at h
 obtain ⟨h1,h2,h3⟩:=h
 obtain ⟨l,rfl⟩:=Int.eq_ofNat_of_zero_le h1
 rw [zhv,Int.toNat_natCast,show min l 32=l by omega] at h3
 obtain ⟨L,hL⟩:∃ L,L=(List.range 32).map (bitC a):=⟨_,rfl⟩
 have hb:=zlzb ha'
 rw [<- hL] at hb
 have hlen:L.length=32:=by rw [hL]; simp
 have hno:Lib.contains (List.drop (Int.toNat (l:Int)) (List.take (Int.toNat (L.length:Int)) L)) [49]=false:=zoib fun b hb=>by
  rw [Int.toNat_natCast,Int.toNat_natCast,List.take_length] at hb
  obtain ⟨j,hj,e⟩:=List.getElem_of_mem hb
  subst hL
  simp at e hj
  rw [<- e]
  exact zfab (by omega) (by omega) h3
 refine zaa (zdn ⟨h1,h2⟩) (ev_t rfl (zaa hb (ev_g (decide_eq_true (by rw [hlen]; omega)) (ev_g (decide_eq_true (by simp [hlen]; omega)) (ev_r ?_)))))
 show (!Lib.contains (List.drop (Int.toNat (l:Int)) (List.take (Int.toNat (L.length:Int)) L)) [(49:UInt8)],())=_
 rw [hno]; rfl
theorem zzq {r:TRule} (h1:U32 r.fromAddr) (h2:U32 r.toAddr) (h:zfe r=true):zne (r.fromAddr,(r.fromLong,(r.toAddr,(r.toLong,(r.proto,(r.fromLow,(r.fromHigh,(r.toLow,(r.toHigh,(r.pass,()))))))))))=some (true,()):=by
 unfold zfe bndB at h
 simp only [Bool.and_eq_true,decide_eq_true_eq] at h
 obtain ⟨n1,n2,p1,p2,⟨f1,f2,f3⟩,t1,t2,t3⟩:=h
 refine zaa (z5h h1 n1) (ev_t rfl (zaa (z5h h2 n2) (ev_t rfl (zaa (zdn ⟨p1,p2⟩) (ev_t rfl (zaa (zdn ⟨f1,f2⟩) (ev_t rfl (ev_t (decide_eq_true (by omega)) (zaa (zdn ⟨t1,t2⟩) (ev_t rfl (ev_r ?_)))))))))))
 show (decide (r.toHigh<65536),())=_
 rw [decide_eq_true (by omega)]
theorem zxe {l:List TRule} (hl:l.length<=64) (hu:∀ r∈l,U32 r.fromAddr/\U32 r.toAddr) (h:∀ r∈l,zfe r=true):zlh (l,())=some ((0:Int),()):=by
 have lp:=za1 (tag:=1000004) (f:=fun x=>(zee x).eval) (l:=l) (fun i=>((i:Int),(l,((l.length:Int),())))) (fun _=>false) (fun _=>Sum.inr ())
  (fun i x hx=>by
   have hi:=(List.getElem?_eq_some_iff.1 hx).1
   have hm:x∈l:=List.mem_of_getElem? hx
   have e1:IntKind.wrap IntKind.i64 ((i:Int)+(1:Int))=((i+1:Nat):Int):=wi _ (by omega)
   have hg:l[Int.toNat (i:Int)]?=some x:=by simpa using hx
   exact ev_t (decide_eq_true (by omega)) (ev_g (decide_eq_true (by omega)) (zaa hg (zaa (zzq (hu x hm).1 (hu x hm).2 (h x hm)) (ev_f rfl (ev_r (by rw [e1])))))))
  (ev_f (decide_eq_false (by omega)) (ev_r rfl)) 18446744073709551616 (by omega)
 exact ev_f (decide_eq_false (by omega)) (zaa (show zef ((0:Int),(l,((l.length:Int),())))=_ from lp) rfl)
theorem zu4 {b:Bu} (h:BOk b):zfk (b.rate,(b.most,(b.has,(b.at',()))))=some ((0:Int),()):=by
 obtain ⟨a1,a2,a3,a4,a5,a6,a7,a8⟩:=h
 exact zaa (zdn ⟨a1,a2⟩) (ev_f rfl (zaa (zdn ⟨a3,a4⟩) (ev_f rfl (zaa (zdn ⟨a5,a6⟩) (ev_f rfl (zaa (zdn ⟨a7,a8⟩) (ev_f rfl (ev_r rfl))))))))
theorem zrx (o l s li r m:Int) (rs:List TRule) (e:Bool) (hr:rs.length<8796093022208):zed (o,(l,(s,(li,(r,(m,(rs,(e,(o,(l,(s,(li,(r,(m,(rs,(e,()))))))))))))))))=some (true,()) :=
 ev_t (decide_eq_true rfl) (ev_t (decide_eq_true rfl) (ev_t (decide_eq_true rfl) (ev_t (decide_eq_true rfl) (ev_t (decide_eq_true rfl) (ev_t (decide_eq_true rfl) (ev_t (by simp) (zaa (z8p rs hr) (ev_r rfl))))))))
theorem z68 (a b c d e:Int) (l:List TMap) (hl:l.length<8796093022208):z1e (a,(b,(c,(d,(e,(l,(a,(b,(c,(d,(e,(l,()))))))))))))=some (true,()) :=
 ev_t (decide_eq_true rfl) (ev_t (by simp) (ev_t (by simp) (zaa (zdnb l hl) (ev_r rfl))))
theorem zzo (h:Hs) (hf:Fits h):zic (h.t (h.t ()))=some (true,()):=by
 obtain ⟨g1,g2,g3,g4,g5,g6⟩:=hf
 exact zaa (zrx _ _ _ _ _ _ _ _ (by omega)) (ev_t rfl (zaa (z31 _ (by omega)) (ev_t rfl (zaa (z8o _ (by omega)) (ev_t rfl (zaa (z68 _ _ _ _ _ _ (by omega)) (ev_r rfl)))))))
open Go Go.RowKit Go.Proofs.YthkhikdglmaiaaaGreatDoor.Abs
theorem zb4b (b:Bool) (hb:b=true) (q Lx:List TMeter) (n i ad ra mo ha at':Int) (out:Int) (lt:Int) (st:Int) (life:Int) (rate:Int) (most:Int) (rules:List TRule) (els:Bool) (met:List TMeter) (trk:List TTalk) (nl:Int) (lb:Int) (L:Int) (sb:Int) (S:Int) (maps:List TMap) (hq:q.length<=64) (h:∀ o∈q,o.addr≠ad/\o.at'<=at'):za4 ((0:Int),(b,(q,(Lx,(n,(i,((q.length:Int),(ad,(ra,(mo,(ha,(at',(out,(lt,(st,(life,(rate,(most,(rules,(els,(met,(trk,(nl,(lb,(L,(sb,(S,(maps,()))))))))))))))))))))))))))))=some (true,(Lx,(n,(i,(out,(lt,(st,(life,(rate,(most,(rules,(els,(met,(trk,(nl,(lb,(L,(sb,(S,(maps,())))))))))))))))))))):=by
 subst hb
 have lp:=za1 (tag:=230016) (f:=fun x=>(zeg x).eval) (l:=q) (fun k=>((k:Int),(true,(q,(Lx,(n,(i,((q.length:Int),(ad,(ra,(mo,(ha,(at',(out,(lt,(st,(life,(rate,(most,(rules,(els,(met,(trk,(nl,(lb,(L,(sb,(S,(maps,()))))))))))))))))))))))))))))) (fun _=>false) (fun _=>(true,(Lx,(n,(i,(out,(lt,(st,(life,(rate,(most,(rules,(els,(met,(trk,(nl,(lb,(L,(sb,(S,(maps,())))))))))))))))))))))
  (fun k x hx=>by
   have hi:=(List.getElem?_eq_some_iff.1 hx).1
   have hm:=h x (List.mem_of_getElem? hx)
   have e1:IntKind.wrap IntKind.i64 ((k:Int)+(1:Int))=((k+1:Nat):Int):=wi _ (by omega)
   have hg:q[Int.toNat (k:Int)]?=some x:=by simpa using hx
   exact ev_t (decide_eq_true (by omega)) (ev_g (decide_eq_true (by omega)) (zaa hg (ev_t rfl (ev_t (by rw [decide_eq_false hm.1]; rfl) (ev_r (by rw [e1,decide_eq_true hm.2])))))))
  (ev_f (decide_eq_false (by omega)) (ev_r rfl)) 18446744073709551616 (by omega)
 exact lp
theorem zb3b (b:Bool) (hb:b=true) (out:Int) (lt:Int) (st:Int) (life:Int) (rate:Int) (most:Int) (rules:List TRule) (els:Bool) (met:List TMeter) (trk:List TTalk) (nl:Int) (lb:Int) (L:Int) (sb:Int) (S:Int) (maps:List TMap) (h:zizb met rate most):za5 ((0:Int),(b,(met,((met.length:Int),(out,(lt,(st,(life,(rate,(most,(rules,(els,(met,(trk,(nl,(lb,(L,(sb,(S,(maps,()))))))))))))))))))))=some (true,()):=by
 subst hb
 obtain ⟨h1,h2,h3⟩:=h
 have lp:=za1 (tag:=230012) (f:=fun x=>(zeh x).eval) (l:=met) (fun k=>((k:Int),(true,(met,((met.length:Int),(out,(lt,(st,(life,(rate,(most,(rules,(els,(met,(trk,(nl,(lb,(L,(sb,(S,(maps,()))))))))))))))))))))) (fun _=>false) (fun _=>(true,()))
  (fun k x hx=>by
   have hi:=(List.getElem?_eq_some_iff.1 hx).1
   obtain ⟨m1,m2,m3⟩:=h2 x (List.mem_of_getElem? hx)
   have e1:IntKind.wrap IntKind.i64 ((k:Int)+(1:Int))=((k+1:Nat):Int):=wi _ (by omega)
   have hg:met[Int.toNat (k:Int)]?=some x:=by simpa using hx
   have hbk:zfk (x.rate,(x.most,(x.has,(x.at',()))))=some ((0:Int),()):=zu4 m1
   have hin:=zb4b (decide (x.most=most)) (decide_eq_true m3) (List.drop (0:Nat) (List.take (Int.toNat (k:Int)) met)) met (met.length:Int) (k:Int) x.addr x.rate x.most x.has x.at' out lt st life rate most rules els met trk nl lb L sb S maps (by simp <;> omega) (fun o ho=>by
    rw [List.drop_zero,Int.toNat_natCast] at ho
    obtain ⟨j,hj,e⟩:=List.getElem_of_mem ho
    have hj':j<k:=by simp at hj; omega
    rw [List.getElem_take] at e
    have:=List.pairwise_iff_getElem.1 h3 j k (by omega) hi hj'
    have ex:met[k]=x:=(List.getElem?_eq_some_iff.1 hx).2
    rw [e,ex] at this
    exact ⟨this.2,this.1⟩)
   exact ev_t (decide_eq_true (by omega)) (ev_g (decide_eq_true (by omega)) (zaa hg (ev_t rfl (zaa hbk (ev_t rfl (ev_t (decide_eq_true m2) (ev_g (decide_eq_true (by omega)) (zaa hin (ev_r (by rw [e1])))))))))))
  (ev_f (decide_eq_false (by omega)) (ev_r rfl)) 18446744073709551616 (by omega)
 exact lp
theorem zz8 {h:Hs} (k:PlanOk h) (hu:∀ r∈h.rules,U32 r.fromAddr/\U32 r.toAddr):znf (h.out,(h.lt,(h.st,(h.life,(h.rate,(h.most,(h.rules,(h.els,()))))))))=some ((0:Int),()):=by
 obtain ⟨p1,p2,p3,p4,p5,p6⟩:=k
 obtain ⟨r1,r2⟩:=zg5.1 p6
 exact zaa (zd5 0 p1) (ev_f rfl (zaa (zd5 0 p2) (ev_f rfl (zaa (zdn p3) (ev_f rfl (zaa (zdn p4) (ev_f rfl (zaa (zdn p5) (ev_f rfl (zaa (zxe r1 hu r2) (ev_r rfl)))))))))))
theorem zx4 {h:Hs} (k:HouseOk h) (hu:∀ r∈h.rules,U32 r.fromAddr/\U32 r.toAddr):zli (h.t ())=some ((0:Int),()):=by
 have hm:=zb3b (decide (h.sb=h.st)) (decide_eq_true k.es) h.out h.lt h.st h.life h.rate h.most h.rules h.els h.met h.trk h.nl h.lb (h.L:Int) h.sb (h.S:Int) h.maps k.met
 have hl:=k.met.1
 exact zaa (zz8 k.plan hu) (ev_f rfl (zaa (zw3 k.trk) (ev_f rfl (zaa (z0g k.nat) (ev_f rfl (ev_t (decide_eq_true (by show (h.met.length:Int)<=64; omega)) (ev_t (decide_eq_true k.el) (ev_t (decide_eq_true k.eb) (zaa hm (ev_f rfl (ev_r rfl)))))))))))
open Go Go.RowKit Go.Proofs.YthkhikdglmaiaaaGreatDoor.Abs
theorem zqq {out lt st life rate most:Int} {rules:List TRule} {els:Bool} {met:List TMeter} {trk:List TTalk} {nl lb' L sb' S:Int} {maps:List TMap} {ins:Bool} {s:List UInt8} {now:Int}
   (c0:0<=out/\out<=4294967295) (c1:-9223372036854775808<=lt/\lt<=9223372036854775807) (c2:-9223372036854775808<=st/\st<=9223372036854775807) (c3:-9223372036854775808<=life/\life<=9223372036854775807) (c4:-9223372036854775808<=rate/\rate<=9223372036854775807) (c5:-9223372036854775808<=most/\most<=9223372036854775807) (c6:BndD 6 (D.st 10 rules))
   (c8:BndD 6 (D.st 19 met)) (c9:BndD 6 (D.st 16 trk)) (c10:-9223372036854775808<=nl/\nl<=9223372036854775807) (c11:-9223372036854775808<=lb'/\lb'<=9223372036854775807) (c12:0<=L/\L<=18446744073709551615) (c13:-9223372036854775808<=sb'/\sb'<=9223372036854775807) (c14:0<=S/\S<=18446744073709551615) (c15:BndD 6 (D.st 17 maps))
   (h2:s.length<=140737488351232) (h3:-9223372036854775808<=now/\now<=9223372036854775807) :
   (zeo (out,(lt,(st,(life,(rate,(most,(rules,(els,(met,(trk,(nl,(lb',(L,(sb',(S,(maps,(ins,(s,(now,())))))))))))))))))))).eval=some (true,()):=by
 obtain ⟨L,rfl⟩:=Int.eq_ofNat_of_zero_le c12.1
 obtain ⟨S,rfl⟩:=Int.eq_ofNat_of_zero_le c14.1
 obtain ⟨h,hh⟩:∃ h:Hs,h=⟨out,lt,st,life,rate,most,rules,els,met,trk,nl,lb',L,sb',S,maps⟩:=⟨_,rfl⟩
 have hfit:Fits h:=by
   rw [hh]
   exact ⟨by show L<2^64; omega,by show S<2^64; omega,c8.1,c9.1,c15.1,c6.1⟩
 have h32:Fit32 h:=by
   rw [hh]
   exact ⟨c0,fun m hm=>by
    have h1:BndD 5 (.i .u32 m.addr):=c15.2 m hm (.i .u32 m.addr) (by simp [enc])
    exact h1⟩
 have hu:∀ r∈h.rules,U32 r.fromAddr/\U32 r.toAddr:=by
   rw [hh]
   intro r hr
   have q1:BndD 5 (.i .u32 r.fromAddr):=c6.2 r hr (.i .u32 r.fromAddr) (by simp [enc])
   have q2:BndD 5 (.i .u32 r.toAddr):=c6.2 r hr (.i .u32 r.toAddr) (by simp [enc])
   exact ⟨q1,q2⟩
 have hear:zel (h.t (ins,(s,(now,()))))=zel (out,(lt,(st,(life,(rate,(most,(rules,(els,(met,(trk,(nl,(lb',((L:Int),(sb',((S:Int),(maps,(ins,(s,(now,()))))))))))))))))))):=by rw [hh]; rfl
 have hsl:s.length<=Lim:=by unfold Lim; omega
 have lv:=zx5
 by_cases hF:HouseOk h/\Till h now/\now<=1099511627776
 case neg =>
   obtain ⟨e',he',hr⟩:=zkkb hfit ins s hF
   rw [hear] at hr
   have same:=zzo h hfit
   rw [hh] at hr same
   exact zaa hr (zaa lv (ev_f rfl (ev_t (by show (!decide (e'=0))=true; rw [decide_eq_false he']; rfl) (zaa lv (ev_t rfl (ev_t (decide_eq_true rfl) (ev_t (decide_eq_true rfl) (zaa same (ev_r rfl)))))))))
 have kF:Fine h now:=⟨hF.1,h32,hF.2.1⟩
 obtain ⟨h',o,why,r1,r2,r3⟩:=zkjb (ins:=ins) kF hF.2.2 hsl
 rw [hear] at r1
 obtain ⟨⟨w1,w2⟩,⟨e1,e2,e3,e4,e5,e6,e7,e8⟩,hend⟩:=z8j kF r2
 have hol:=zhrb r2
 have right:=zx4 r3.1 (by rw [e7]; exact hu)
 have plan:=zrx h'.out h'.lt h'.st h'.life h'.rate h'.most h'.rules h'.els (by have:=(zg5.1 r3.1.plan.rules).1; omega)
 have plan':zed (h'.out,(h'.lt,(h'.st,(h'.life,(h'.rate,(h'.most,(h'.rules,(h'.els,(out,(lt,(st,(life,(rate,(most,(rules,(els,()))))))))))))))))=some (true,()):=by
   have q:zed (h'.out,(h'.lt,(h'.st,(h'.life,(h'.rate,(h'.most,(h'.rules,(h'.els,(h.out,(h.lt,(h.st,(h.life,(h.rate,(h.most,(h.rules,(h.els,()))))))))))))))))=some (true,()):=by
    rw [<- e1,<- e2,<- e3,<- e4,<- e5,<- e6,<- e7,<- e8]; exact plan
   rw [hh] at q; exact q
 by_cases hw:why=0
 . subst hw
   obtain ⟨z,z1,z2⟩:=zdub (hend rfl) hol
   exact zaa r1 (zaa lv (ev_f rfl (ev_f rfl (zaa z1 (zaa right (ev_t rfl (zaa plan' (ev_t rfl (ev_t (decide_eq_true (Int.le_refl 0)) (ev_t (decide_eq_true (by show (0:Int)<=5; decide)) (ev_t (by show (decide ((0:Int)=0)==decide (z.2.2.2.2.2.1=(0:Int)))=true; rw [decide_eq_true z2]; rfl) (ev_t rfl (ev_r rfl)))))))))))))
 . have ho:=z8k r2 hw
   subst ho
   obtain ⟨z,z1,z2⟩:=z8s
   exact zaa r1 (zaa lv (ev_f rfl (ev_f rfl (zaa z1 (zaa right (ev_t rfl (zaa plan' (ev_t rfl (ev_t (decide_eq_true w1) (ev_t (decide_eq_true w2) (ev_t (by show (decide (why=0)==decide (z.2.2.2.2.2.1=(0:Int)))=true; rw [decide_eq_false hw,decide_eq_false z2]; rfl) (ev_f (decide_eq_false hw) (ev_r rfl)))))))))))))
end Go.Proofs.YthkhikdglmaiaaaGreatDoor.X
namespace Go.Proofs.YthkhikdglmaiaaaGreatDoor.HouseRight
open Go Go.RowKit Go.Proofs.YthkhikdglmaiaaaGreatDoor Go.Proofs.YthkhikdglmaiaaaGreatDoor.Abs
set_option linter.unusedVariables false
set_option maxRecDepth 100000
theorem walk (a0:Array Value) (a1:Bool) (a2:ByteArray) (a3:Int) (w:World) (h0:Read.Rd Tryz.prog w 36 a0.toList) (h2:a2.size<=140737488351232) (h3:-9223372036854775808<=a3/\a3<=9223372036854775807) (hgl:∀ e∈Abs.globs,∃ x y,w.heap[e.1]?=some (.cells e.2 x y)) (hgi:∀ g∈Abs.gints,g<w.heap.size /\ ∃ m,w.cell? ⟨g,0,none⟩=some (.int .i64 m)):Calls Tryz.prog 5 #[.agg a0,.bool a1,.string a2,.int .i64 a3] w fun e w'=>e=.returned (.bool true)/\Below w.heap.size w w':=by
 obtain ⟨x0,r0,b0⟩:=zgsb (cod:=X.cod) (ps:=[.i .u32,.i .i64,.i .i64,.i .i64,.i .i64,.i .i64,.st 10,.b,.st 19,.st 16,.i .i64,.i .i64,.i .u64,.i .i64,.i .u64,.st 17]) (by kernel_rfl) (by kernel_rfl) h0
 obtain ⟨v0_0,v0_1,v0_2,v0_3,v0_4,v0_5,v0_6,v0_7,v0_8,v0_9,v0_10,v0_11,v0_12,v0_13,v0_14,v0_15,⟨⟩⟩:=x0
 replace b0:∀ d∈[D.i .u32 v0_0,D.i .i64 v0_1,D.i .i64 v0_2,D.i .i64 v0_3,D.i .i64 v0_4,D.i .i64 v0_5,D.st 10 v0_6,D.b v0_7,D.st 19 v0_8,D.st 16 v0_9,D.i .i64 v0_10,D.i .i64 v0_11,D.i .u64 v0_12,D.i .i64 v0_13,D.i .u64 v0_14,D.st 17 v0_15],BndD 6 d:=b0
 replace r0:RepAll w (fun b=>b<w.heap.size) _ [D.i .u32 v0_0,D.i .i64 v0_1,D.i .i64 v0_2,D.i .i64 v0_3,D.i .i64 v0_4,D.i .i64 v0_5,D.st 10 v0_6,D.b v0_7,D.st 19 v0_8,D.st 16 v0_9,D.i .i64 v0_10,D.i .i64 v0_11,D.i .u64 v0_12,D.i .i64 v0_13,D.i .u64 v0_14,D.st 17 v0_15]:=r0
 have b0_0:0<=v0_0/\v0_0<=4294967295:=b0 _ List.mem_cons_self
 have b0_1:-9223372036854775808<=v0_1/\v0_1<=9223372036854775807:=b0 _ (List.mem_cons_of_mem _ List.mem_cons_self)
 have b0_2:-9223372036854775808<=v0_2/\v0_2<=9223372036854775807:=b0 _ (List.mem_cons_of_mem _ (List.mem_cons_of_mem _ List.mem_cons_self))
 have b0_3:-9223372036854775808<=v0_3/\v0_3<=9223372036854775807:=b0 _ (List.mem_cons_of_mem _ (List.mem_cons_of_mem _ (List.mem_cons_of_mem _ List.mem_cons_self)))
 have b0_4:-9223372036854775808<=v0_4/\v0_4<=9223372036854775807:=b0 _ (List.mem_cons_of_mem _ (List.mem_cons_of_mem _ (List.mem_cons_of_mem _ (List.mem_cons_of_mem _ List.mem_cons_self))))
 have b0_5:-9223372036854775808<=v0_5/\v0_5<=9223372036854775807:=b0 _ (List.mem_cons_of_mem _ (List.mem_cons_of_mem _ (List.mem_cons_of_mem _ (List.mem_cons_of_mem _ (List.mem_cons_of_mem _ List.mem_cons_self)))))
 have b0_6:BndD 6 (D.st 10 v0_6):=b0 _ (List.mem_cons_of_mem _ (List.mem_cons_of_mem _ (List.mem_cons_of_mem _ (List.mem_cons_of_mem _ (List.mem_cons_of_mem _ (List.mem_cons_of_mem _ List.mem_cons_self))))))
 have b0_8:BndD 6 (D.st 19 v0_8):=b0 _ (List.mem_cons_of_mem _ (List.mem_cons_of_mem _ (List.mem_cons_of_mem _ (List.mem_cons_of_mem _ (List.mem_cons_of_mem _ (List.mem_cons_of_mem _ (List.mem_cons_of_mem _ (List.mem_cons_of_mem _ List.mem_cons_self))))))))
 have b0_9:BndD 6 (D.st 16 v0_9):=b0 _ (List.mem_cons_of_mem _ (List.mem_cons_of_mem _ (List.mem_cons_of_mem _ (List.mem_cons_of_mem _ (List.mem_cons_of_mem _ (List.mem_cons_of_mem _ (List.mem_cons_of_mem _ (List.mem_cons_of_mem _ (List.mem_cons_of_mem _ List.mem_cons_self)))))))))
 have b0_10:-9223372036854775808<=v0_10/\v0_10<=9223372036854775807:=b0 _ (List.mem_cons_of_mem _ (List.mem_cons_of_mem _ (List.mem_cons_of_mem _ (List.mem_cons_of_mem _ (List.mem_cons_of_mem _ (List.mem_cons_of_mem _ (List.mem_cons_of_mem _ (List.mem_cons_of_mem _ (List.mem_cons_of_mem _ (List.mem_cons_of_mem _ List.mem_cons_self))))))))))
 have b0_11:-9223372036854775808<=v0_11/\v0_11<=9223372036854775807:=b0 _ (List.mem_cons_of_mem _ (List.mem_cons_of_mem _ (List.mem_cons_of_mem _ (List.mem_cons_of_mem _ (List.mem_cons_of_mem _ (List.mem_cons_of_mem _ (List.mem_cons_of_mem _ (List.mem_cons_of_mem _ (List.mem_cons_of_mem _ (List.mem_cons_of_mem _ (List.mem_cons_of_mem _ List.mem_cons_self)))))))))))
 have b0_12:0<=v0_12/\v0_12<=18446744073709551615:=b0 _ (List.mem_cons_of_mem _ (List.mem_cons_of_mem _ (List.mem_cons_of_mem _ (List.mem_cons_of_mem _ (List.mem_cons_of_mem _ (List.mem_cons_of_mem _ (List.mem_cons_of_mem _ (List.mem_cons_of_mem _ (List.mem_cons_of_mem _ (List.mem_cons_of_mem _ (List.mem_cons_of_mem _ (List.mem_cons_of_mem _ List.mem_cons_self))))))))))))
 have b0_13:-9223372036854775808<=v0_13/\v0_13<=9223372036854775807:=b0 _ (List.mem_cons_of_mem _ (List.mem_cons_of_mem _ (List.mem_cons_of_mem _ (List.mem_cons_of_mem _ (List.mem_cons_of_mem _ (List.mem_cons_of_mem _ (List.mem_cons_of_mem _ (List.mem_cons_of_mem _ (List.mem_cons_of_mem _ (List.mem_cons_of_mem _ (List.mem_cons_of_mem _ (List.mem_cons_of_mem _ (List.mem_cons_of_mem _ List.mem_cons_self)))))))))))))
 have b0_14:0<=v0_14/\v0_14<=18446744073709551615:=b0 _ (List.mem_cons_of_mem _ (List.mem_cons_of_mem _ (List.mem_cons_of_mem _ (List.mem_cons_of_mem _ (List.mem_cons_of_mem _ (List.mem_cons_of_mem _ (List.mem_cons_of_mem _ (List.mem_cons_of_mem _ (List.mem_cons_of_mem _ (List.mem_cons_of_mem _ (List.mem_cons_of_mem _ (List.mem_cons_of_mem _ (List.mem_cons_of_mem _ (List.mem_cons_of_mem _ List.mem_cons_self))))))))))))))
 have b0_15:BndD 6 (D.st 17 v0_15):=b0 _ (List.mem_cons_of_mem _ (List.mem_cons_of_mem _ (List.mem_cons_of_mem _ (List.mem_cons_of_mem _ (List.mem_cons_of_mem _ (List.mem_cons_of_mem _ (List.mem_cons_of_mem _ (List.mem_cons_of_mem _ (List.mem_cons_of_mem _ (List.mem_cons_of_mem _ (List.mem_cons_of_mem _ (List.mem_cons_of_mem _ (List.mem_cons_of_mem _ (List.mem_cons_of_mem _ (List.mem_cons_of_mem _ List.mem_cons_self)))))))))))))))
 have b2:a2.data.toList.length<=140737488351232:=by rw [Array.length_toList]; exact h2
 exact zhcb X.z3o rfl (x:=(v0_0,(v0_1,(v0_2,(v0_3,(v0_4,(v0_5,(v0_6,(v0_7,(v0_8,(v0_9,(v0_10,(v0_11,(v0_12,(v0_13,(v0_14,(v0_15,(a1,(a2.data.toList,(a3,())))))))))))))))))))) ⟨(true,()),X.zqq b0_0 b0_1 b0_2 b0_3 b0_4 b0_5 b0_6 b0_8 b0_9 b0_10 b0_11 b0_12 b0_13 b0_14 b0_15 b2 h3,rfl,rfl⟩ (RepArgs.agg r0 (RepArgs.b (RepArgs.s (RepArgs.i RepArgs.nil)))) rfl (hgl:=hgl) (hgi:=hgi)
end Go.Proofs.YthkhikdglmaiaaaGreatDoor.HouseRight
