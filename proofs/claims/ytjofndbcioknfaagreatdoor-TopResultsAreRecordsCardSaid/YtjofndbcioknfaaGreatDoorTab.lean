/- The program's tables,by program. -/
import Derived.Test.YtjofndbcioknfaaGreatDoorTw
import Derived.Test.YtjofndbcioknfaaGreatDoorArena
import Derived.Test.YtjofndbcioknfaaGreatDoorProg
namespace Go.Proofs.YtjofndbcioknfaaGreatDoor
open Go
def Eu.enc (x : Eu) : List Value:=[sV x.Key,iV x.Metres,iV x.Stroke,iV x.Course,iV x.Legs,iV x.Sex,iV x.Young,iV x.Old]
theorem Eu.enc_ok : Enc 8 Eu.enc:=⟨fun _=>rfl,fun _ u h=>by simp [Eu.enc] at h; rcases h with rfl | rfl | rfl | rfl | rfl | rfl | rfl | rfl <;> rfl⟩
def Uu.enc (x : Uu) : List Value:=[iV x.Size,iV x.Many,iV x.Reserves]
theorem Uu.enc_ok : Enc 3 Uu.enc:=⟨fun _=>rfl,fun _ u h=>by simp [Uu.enc] at h; rcases h with rfl | rfl | rfl <;> rfl⟩
def Eg.enc (x : Eg) : List Value:=[sV x.Site,iV x.No,iV x.At,iV x.Kind,sV x.Who,sV x.Club,sV x.Race,iV x.Time,iV x.Fault,sV x.Of,iV x.Other]
theorem Eg.enc_ok : Enc 11 Eg.enc:=⟨fun _=>rfl,fun _ u h=>by simp [Eg.enc] at h; rcases h with rfl | rfl | rfl | rfl | rfl | rfl | rfl | rfl | rfl | rfl | rfl <;> rfl⟩
def Fm.enc (x : Fm) : List Value:=[sV x.site_,iV x.no_]
theorem Fm.enc_ok : Enc 2 Fm.enc:=⟨fun _=>rfl,fun _ u h=>by simp [Fm.enc] at h; rcases h with rfl | rfl <;> rfl⟩
def Fo.enc (x : Fo) : List Value:=[iV x.Num,iV x.Den]
theorem Fo.enc_ok : Enc 2 Fo.enc:=⟨fun _=>rfl,fun _ u h=>by simp [Fo.enc] at h; rcases h with rfl | rfl <;> rfl⟩
def Jy.enc (x : Jy) : List Value:=[iV x.Rank,sV x.Who,sV x.Club,iV x.Time,iV x.Fault,iV x.Points.Num,iV x.Points.Den]
theorem Jy.enc_ok : Enc 7 Jy.enc:=⟨fun _=>rfl,fun _ u h=>by simp [Jy.enc] at h; rcases h with rfl | rfl | rfl | rfl | rfl | rfl | rfl <;> rfl⟩
def Kq.enc (x : Kq) : List Value:=[sV x.Who,iV x.Time]
theorem Kq.enc_ok : Enc 2 Kq.enc:=⟨fun _=>rfl,fun _ u h=>by simp [Kq.enc] at h; rcases h with rfl | rfl <;> rfl⟩
def Ej.enc (x : Ej) : List Value:=[sV x.Who,iV x.Rank,iV x.Time,iV x.Fault]
theorem Ej.enc_ok : Enc 4 Ej.enc:=⟨fun _=>rfl,fun _ u h=>by simp [Ej.enc] at h; rcases h with rfl | rfl | rfl | rfl <;> rfl⟩
def Eh.enc (x : Eh) : List Value:=[sV x.Race,sV x.Who,sV x.Club,iV x.Rank,bV x.Relay]
theorem Eh.enc_ok : Enc 5 Eh.enc:=⟨fun _=>rfl,fun _ u h=>by simp [Eh.enc] at h; rcases h with rfl | rfl | rfl | rfl | rfl <;> rfl⟩
def Ge.enc (x : Ge) : List Value:=[sV x.race_,sV x.who_]
theorem Ge.enc_ok : Enc 2 Ge.enc:=⟨fun _=>rfl,fun _ u h=>by simp [Ge.enc] at h; rcases h with rfl | rfl <;> rfl⟩
def Lw.enc (x : Lw) : List Value:=[sV x.Key,iV x.Points.Num,iV x.Points.Den]
theorem Lw.enc_ok : Enc 3 Lw.enc:=⟨fun _=>rfl,fun _ u h=>by simp [Lw.enc] at h; rcases h with rfl | rfl | rfl <;> rfl⟩
def En.enc (x : En) : List Value:=[sV x.x_.Race,sV x.x_.Who,sV x.x_.Club,iV x.x_.Rank,bV x.x_.Relay,iV x.points_.Num,iV x.points_.Den]
theorem En.enc_ok : Enc 7 En.enc:=⟨fun _=>rfl,fun _ u h=>by simp [En.enc] at h; rcases h with rfl | rfl | rfl | rfl | rfl | rfl | rfl <;> rfl⟩
def Ex.enc (x : Ex) : List Value:=[iV x.At,iV x.Kind,sV x.Id,sV x.Who,sV x.Club,sV x.Race,iV x.Age,iV x.Time]
theorem Ex.enc_ok : Enc 8 Ex.enc:=⟨fun _=>rfl,fun _ u h=>by simp [Ex.enc] at h; rcases h with rfl | rfl | rfl | rfl | rfl | rfl | rfl | rfl <;> rfl⟩
def Ep.enc (x : Ep) : List Value:=[iV x.s_.At,iV x.s_.Kind,sV x.s_.Id,sV x.s_.Who,sV x.s_.Club,sV x.s_.Race,iV x.s_.Age,iV x.s_.Time,bV x.sure_,bV x.void_]
theorem Ep.enc_ok : Enc 10 Ep.enc:=⟨fun _=>rfl,fun _ u h=>by simp [Ep.enc] at h; rcases h with rfl | rfl | rfl | rfl | rfl | rfl | rfl | rfl | rfl | rfl <;> rfl⟩
def Hp.enc (x : Hp) : List Value:=[sV x.Kind,sV x.Id,sV x.Who,iV x.Time,iV x.Since,bV x.Sure]
theorem Hp.enc_ok : Enc 6 Hp.enc:=⟨fun _=>rfl,fun _ u h=>by simp [Hp.enc] at h; rcases h with rfl | rfl | rfl | rfl | rfl | rfl <;> rfl⟩
def Nv.enc (x : Nv) : List Value:=[iV x.Year,iV x.Month,iV x.Day]
theorem Nv.enc_ok : Enc 3 Nv.enc:=⟨fun _=>rfl,fun _ u h=>by simp [Nv.enc] at h; rcases h with rfl | rfl | rfl <;> rfl⟩
def Oy.enc (x : Oy) : List Value:=[sV x.Key,iV x.Heats,iV x.Long,iV x.Gap,iV x.Break]
theorem Oy.enc_ok : Enc 5 Oy.enc:=⟨fun _=>rfl,fun _ u h=>by simp [Oy.enc] at h; rcases h with rfl | rfl | rfl | rfl | rfl <;> rfl⟩
def Vv.enc (x : Vv) : List Value:=[iV x.From,iV x.To]
theorem Vv.enc_ok : Enc 2 Vv.enc:=⟨fun _=>rfl,fun _ u h=>by simp [Vv.enc] at h; rcases h with rfl | rfl <;> rfl⟩
def Lx.enc (x : Lx) : List Value:=[sV x.Item,iV x.Heat,iV x.Time.From,iV x.Time.To]
theorem Lx.enc_ok : Enc 4 Lx.enc:=⟨fun _=>rfl,fun _ u h=>by simp [Lx.enc] at h; rcases h with rfl | rfl | rfl | rfl <;> rfl⟩
def Sw.enc (x : Sw) : List Value:=[sV x.Race,iV x.Time]
theorem Sw.enc_ok : Enc 2 Sw.enc:=⟨fun _=>rfl,fun _ u h=>by simp [Sw.enc] at h; rcases h with rfl | rfl <;> rfl⟩
structure R28 where
  mk ::
  (Points : RS)
  (Relay : Int)
  (Most : Int)
def R28.enc (x : R28) : List Value:=[x.Points.val,iV x.Relay,iV x.Most]
theorem R28.enc_ok : Enc 3 R28.enc:=⟨fun _=>rfl,fun x u h=>by
    simp only [R28.enc,List.mem_cons,List.not_mem_nil,or_false] at h
    rcases h with rfl | rfl | rfl
    · exact x.Points.property
    · exact rfl
    · exact rfl⟩
def Zp (φ : View) (x : Nh) (r : R28) : Prop:=∃ u1 : RS,r = ⟨u1,x.Relay,x.Most⟩ ∧ Slc φ 1 u1.val (x.Points.map eInt)
theorem AC {φ ψ : View} (l : View.le φ ψ) (x : Nh) (r : R28) (h : Zp φ x r) : Zp ψ x r:=by
  obtain ⟨u1,e,h1⟩:=h
  exact ⟨u1,e,h1.mono l⟩
theorem rels_28 {φ ψ : View} (l : View.le φ ψ) {xs : List Nh} {rs : List R28} (h : Lp (Zp φ) xs rs) : Lp (Zp ψ) xs rs:=h.chg (AC l)
structure R32 where
  mk ::
  (Races : RS)
  (Table : R28)
  (Final : Uu)
def R32.enc (x : R32) : List Value:=[x.Races.val] ++ R28.enc x.Table ++ [iV x.Final.Size,iV x.Final.Many,iV x.Final.Reserves]
theorem R32.enc_ok : Enc 7 R32.enc:=⟨fun x=>by simp [R32.enc,R28.enc_ok.len],fun x u h=>by
    simp only [R32.enc,List.mem_append,List.mem_cons,List.not_mem_nil,or_false] at h
    first
    | (rcases h with (h | h) | h
       · rcases h with rfl
         · exact x.Races.property
       · exact R28.enc_ok.one _ u h
       · rcases h with rfl | rfl | rfl
         · exact rfl
         · exact rfl
         · exact rfl)⟩
def Wm (φ : View) (x : Ni) (r : R32) : Prop:=∃ u1 : RS,∃ u2 : R28,r = ⟨u1,u2,x.Final⟩ ∧ Slc φ 8 u1.val (x.Races.map Eu.enc) ∧ Zp φ x.Table u2
theorem AD {φ ψ : View} (l : View.le φ ψ) (x : Ni) (r : R32) (h : Wm φ x r) : Wm ψ x r:=by
  obtain ⟨u1,u2,e,h1,h2⟩:=h
  exact ⟨u1,u2,e,h1.mono l,AC l _ _ h2⟩
theorem rels_32 {φ ψ : View} (l : View.le φ ψ) {xs : List Ni} {rs : List R32} (h : Lp (Wm φ) xs rs) : Lp (Wm ψ) xs rs:=h.chg (AD l)
structure GA where
  mk ::
  (p_ : R32)
  (deeds_ : RS)
def GA.enc (x : GA) : List Value:=R32.enc x.p_ ++ [x.deeds_.val]
theorem GA.enc_ok : Enc 8 GA.enc:=⟨fun x=>by simp [GA.enc,R32.enc_ok.len],fun x u h=>by
    simp only [GA.enc,List.mem_append,List.mem_cons,List.not_mem_nil,or_false] at h
    first
    | (rcases h with h | h
       · exact R32.enc_ok.one _ u h
       · rcases h with rfl
         · exact x.deeds_.property)⟩
def BT (φ : View) (x : Lm) (r : GA) : Prop:=∃ u1 : R32,∃ u2 : RS,r = ⟨u1,u2⟩ ∧ Wm φ x.p_ u1 ∧ Slc φ 11 u2.val (x.deeds_.map Eg.enc)
theorem Ua {φ ψ : View} (l : View.le φ ψ) (x : Lm) (r : GA) (h : BT φ x r) : BT ψ x r:=by
  obtain ⟨u1,u2,e,h1,h2⟩:=h
  exact ⟨u1,u2,e,AD l _ _ h1,h2.mono l⟩
theorem rels_128 {φ ψ : View} (l : View.le φ ψ) {xs : List Lm} {rs : List GA} (h : Lp (BT φ) xs rs) : Lp (BT ψ) xs rs:=h.chg (Ua l)
structure Uk where
  mk ::
  (Who : ByteArray)
  (Fault : Int)
  (Reports : RS)
def Uk.enc (x : Uk) : List Value:=[sV x.Who,iV x.Fault,x.Reports.val]
theorem Uk.enc_ok : Enc 3 Uk.enc:=⟨fun _=>rfl,fun x u h=>by
    simp only [Uk.enc,List.mem_cons,List.not_mem_nil,or_false] at h
    rcases h with rfl | rfl | rfl
    · exact rfl
    · exact rfl
    · exact x.Reports.property⟩
def Xa (φ : View) (x : Jm) (r : Uk) : Prop:=∃ u1 : RS,r = ⟨x.Who,x.Fault,u1⟩ ∧ Slc φ 1 u1.val (x.Reports.map NM)
theorem NS {φ ψ : View} (l : View.le φ ψ) (x : Jm) (r : Uk) (h : Xa φ x r) : Xa ψ x r:=by
  obtain ⟨u1,e,h1⟩:=h
  exact ⟨u1,e,h1.mono l⟩
theorem JX {φ ψ : View} (l : View.le φ ψ) {xs : List Jm} {rs : List Uk} (h : Lp (Xa φ) xs rs) : Lp (Xa ψ) xs rs:=h.chg (NS l)
def AE (φ : View) (x : (List Eh)) (r : RS) : Prop:=Slc φ 5 r.val (x.map Eh.enc)
theorem NT {φ ψ : View} (l : View.le φ ψ) (x : (List Eh)) (r : RS) (h : AE φ x r) : AE ψ x r:=Slc.mono h l
theorem GB {φ ψ : View} (l : View.le φ ψ) {xs : List (List Eh)} {rs : List RS} (h : Lp (AE φ) xs rs) : Lp (AE ψ) xs rs:=h.chg (NT l)
structure R45 where
  mk ::
  (Key : ByteArray)
  (Race : ByteArray)
  (Clubs : RS)
  (Young : Int)
  (Old : Int)
def R45.enc (x : R45) : List Value:=[sV x.Key,sV x.Race,x.Clubs.val,iV x.Young,iV x.Old]
theorem R45.enc_ok : Enc 5 R45.enc:=⟨fun _=>rfl,fun x u h=>by
    simp only [R45.enc,List.mem_cons,List.not_mem_nil,or_false] at h
    rcases h with rfl | rfl | rfl | rfl | rfl
    · exact rfl
    · exact rfl
    · exact x.Clubs.property
    · exact rfl
    · exact rfl⟩
def Vo (φ : View) (x : Mw) (r : R45) : Prop:=∃ u1 : RS,r = ⟨x.Key,x.Race,u1,x.Young,x.Old⟩ ∧ Slc φ 1 u1.val (x.Clubs.map NM)
theorem Xe {φ ψ : View} (l : View.le φ ψ) (x : Mw) (r : R45) (h : Vo φ x r) : Vo ψ x r:=by
  obtain ⟨u1,e,h1⟩:=h
  exact ⟨u1,e,h1.mono l⟩
theorem EE {φ ψ : View} (l : View.le φ ψ) {xs : List Mw} {rs : List R45} (h : Lp (Vo φ) xs rs) : Lp (Vo ψ) xs rs:=h.chg (Xe l)
def AF (φ : View) (x : Ep) (r : Nat) : Prop:=φ r = some (.cells (Ep.enc x).toArray 194 (0,0))
theorem NU {φ ψ : View} (l : View.le φ ψ) (x : Ep) (r : Nat) (h : AF φ x r) : AF ψ x r:=l _ _ h
theorem AW {φ ψ : View} (l : View.le φ ψ) {xs : List Ep} {rs : List Nat} (h : Lp (AF φ) xs rs) : Lp (AF ψ) xs rs:=h.chg (NU l)
theorem Tryz.mixed : Tryz.prog.follows .mixedOrders = true:=by kernel_rfl
theorem Qh : SlT Tryz.prog 22 3 1 8:=Tt (z:=(iV 0)) Tryz.underlying22 Tryz.sizeOf3 (by kernel_rfl) rfl
theorem Yq : SlT Tryz.prog 26 38 8 72:=Tt (z:=(.agg #[sV An,iV 0,iV 0,iV 0,iV 0,iV 0,iV 0,iV 0])) Tryz.underlying26 Tryz.sizeOf38 (by kernel_rfl) rfl
theorem Pn : SlT Tryz.prog 34 101 11 128:=Tt (z:=(.agg #[sV An,iV 0,iV 0,iV 0,sV An,sV An,sV An,iV 0,iV 0,sV An,iV 0])) Tryz.underlying34 Tryz.sizeOf101 (by kernel_rfl) rfl
theorem PN : SlT Tryz.prog 39 51 7 72:=Tt (z:=(.agg #[iV 0,sV An,sV An,iV 0,iV 0,iV 0,iV 0])) Tryz.underlying39 Tryz.sizeOf51 (by kernel_rfl) rfl
theorem DA : SlT Tryz.prog 43 9 1 16:=Tt (z:=(sV An)) Tryz.underlying43 Tryz.sizeOf9 (by kernel_rfl) rfl
theorem JY : SlT Tryz.prog 46 45 5 72:=Tt (z:=(.agg #[sV An,sV An,.slice none 0 0,iV 0,iV 0])) Tryz.underlying46 Tryz.sizeOf45 (by kernel_rfl) rfl
theorem AG : SlT Tryz.prog 47 53 8 96:=Tt (z:=(.agg #[iV 0,iV 0,sV An,sV An,sV An,sV An,iV 0,iV 0])) Tryz.underlying47 Tryz.sizeOf53 (by kernel_rfl) rfl
theorem DB : SlT Tryz.prog 56 61 6 72:=Tt (z:=(.agg #[sV An,sV An,sV An,iV 0,iV 0,bV false])) Tryz.underlying56 Tryz.sizeOf61 (by kernel_rfl) rfl
theorem XB : SlT Tryz.prog 77 192 1 8:=Tt (z:=(.pointer none)) Tryz.underlying77 Tryz.sizeOf192 (by kernel_rfl) rfl
theorem PO : SlT Tryz.prog 90 89 5 48:=Tt (z:=(.agg #[sV An,iV 0,iV 0,iV 0,iV 0])) Tryz.underlying90 Tryz.sizeOf89 (by kernel_rfl) rfl
theorem ML : SlT Tryz.prog 94 93 2 24:=Tt (z:=(.agg #[sV An,iV 0])) Tryz.underlying94 Tryz.sizeOf93 (by kernel_rfl) rfl
theorem Tk : SlT Tryz.prog 112 118 4 40:=Tt (z:=(.agg #[sV An,iV 0,iV 0,iV 0])) Tryz.underlying112 Tryz.sizeOf118 (by kernel_rfl) rfl
theorem Oo : SlT Tryz.prog 116 120 5 64:=Tt (z:=(.agg #[sV An,sV An,sV An,iV 0,bV false])) Tryz.underlying116 Tryz.sizeOf120 (by kernel_rfl) rfl
theorem RK : SlT Tryz.prog 124 131 3 32:=Tt (z:=(.agg #[sV An,iV 0,iV 0])) Tryz.underlying124 Tryz.sizeOf131 (by kernel_rfl) rfl
theorem NV : SlT Tryz.prog 150 201 4 40:=Tt (z:=(.agg #[sV An,iV 0,iV 0,iV 0])) Tryz.underlying150 Tryz.sizeOf201 (by kernel_rfl) rfl
theorem HI : SlT Tryz.prog 166 170 2 24:=Tt (z:=(.agg #[sV An,iV 0])) Tryz.underlying166 Tryz.sizeOf170 (by kernel_rfl) rfl
theorem FH : SlT Tryz.prog 167 172 3 48:=Tt (z:=(.agg #[sV An,iV 0,.slice none 0 0])) Tryz.underlying167 Tryz.sizeOf172 (by kernel_rfl) rfl
theorem DC : SlT Tryz.prog 177 180 7 80:=Tt (z:=(.agg #[sV An,sV An,sV An,iV 0,bV false,iV 0,iV 0])) Tryz.underlying177 Tryz.sizeOf180 (by kernel_rfl) rfl
theorem BU : SlT Tryz.prog 221 116 1 24:=Tt (z:=(.slice none 0 0)) Tryz.underlying221 Tryz.sizeOf116 (by kernel_rfl) rfl
theorem JF : Mh Tryz.prog 25 0 0:=⟨_,_,_,Tryz.underlying25,rfl,Tryz.sizeOf22,rfl,rfl⟩
theorem GC : Mh Tryz.prog 25 1 1:=⟨_,_,_,Tryz.underlying25,rfl,Tryz.sizeOf3,rfl,rfl⟩
theorem BV : Mh Tryz.prog 28 0 0:=⟨_,_,_,Tryz.underlying28,rfl,Tryz.sizeOf22,rfl,rfl⟩
theorem SY : Mh Tryz.prog 28 1 1:=⟨_,_,_,Tryz.underlying28,rfl,Tryz.sizeOf3,rfl,rfl⟩
theorem NW : Mh Tryz.prog 28 2 2:=⟨_,_,_,Tryz.underlying28,rfl,Tryz.sizeOf3,rfl,rfl⟩
theorem fa_30_0 : Mh Tryz.prog 30 0 0:=⟨_,_,_,Tryz.underlying30,rfl,Tryz.sizeOf3,rfl,rfl⟩
theorem fa_30_1 : Mh Tryz.prog 30 1 1:=⟨_,_,_,Tryz.underlying30,rfl,Tryz.sizeOf3,rfl,rfl⟩
theorem fa_30_2 : Mh Tryz.prog 30 2 2:=⟨_,_,_,Tryz.underlying30,rfl,Tryz.sizeOf3,rfl,rfl⟩
theorem BW : Mh Tryz.prog 32 0 0:=⟨_,_,_,Tryz.underlying32,rfl,Tryz.sizeOf26,rfl,rfl⟩
theorem SZ : Mh Tryz.prog 32 1 1:=⟨_,_,_,Tryz.underlying32,rfl,Tryz.sizeOf28,rfl,rfl⟩
theorem fa_32_2 : Mh Tryz.prog 32 2 4:=⟨_,_,_,Tryz.underlying32,rfl,Tryz.sizeOf30,rfl,rfl⟩
theorem Yj : Mh Tryz.prog 38 0 0:=⟨_,_,_,Tryz.underlying38,rfl,Tryz.sizeOf9,rfl,rfl⟩
theorem NX : Mh Tryz.prog 38 1 1:=⟨_,_,_,Tryz.underlying38,rfl,Tryz.sizeOf3,rfl,rfl⟩
theorem NY : Mh Tryz.prog 38 2 2:=⟨_,_,_,Tryz.underlying38,rfl,Tryz.sizeOf3,rfl,rfl⟩
theorem JG : Mh Tryz.prog 38 3 3:=⟨_,_,_,Tryz.underlying38,rfl,Tryz.sizeOf3,rfl,rfl⟩
theorem GD : Mh Tryz.prog 38 4 4:=⟨_,_,_,Tryz.underlying38,rfl,Tryz.sizeOf3,rfl,rfl⟩
theorem fa_38_5 : Mh Tryz.prog 38 5 5:=⟨_,_,_,Tryz.underlying38,rfl,Tryz.sizeOf3,rfl,rfl⟩
theorem NZ : Mh Tryz.prog 38 6 6:=⟨_,_,_,Tryz.underlying38,rfl,Tryz.sizeOf3,rfl,rfl⟩
theorem OA : Mh Tryz.prog 38 7 7:=⟨_,_,_,Tryz.underlying38,rfl,Tryz.sizeOf3,rfl,rfl⟩
theorem GE : Mh Tryz.prog 45 0 0:=⟨_,_,_,Tryz.underlying45,rfl,Tryz.sizeOf9,rfl,rfl⟩
theorem TA : Mh Tryz.prog 45 1 1:=⟨_,_,_,Tryz.underlying45,rfl,Tryz.sizeOf9,rfl,rfl⟩
theorem GF : Mh Tryz.prog 45 2 2:=⟨_,_,_,Tryz.underlying45,rfl,Tryz.sizeOf43,rfl,rfl⟩
theorem OB : Mh Tryz.prog 45 3 3:=⟨_,_,_,Tryz.underlying45,rfl,Tryz.sizeOf3,rfl,rfl⟩
theorem OC : Mh Tryz.prog 45 4 4:=⟨_,_,_,Tryz.underlying45,rfl,Tryz.sizeOf3,rfl,rfl⟩
theorem TC : Mh Tryz.prog 51 0 0:=⟨_,_,_,Tryz.underlying51,rfl,Tryz.sizeOf3,rfl,rfl⟩
theorem OD : Mh Tryz.prog 51 1 1:=⟨_,_,_,Tryz.underlying51,rfl,Tryz.sizeOf9,rfl,rfl⟩
theorem fa_51_3 : Mh Tryz.prog 51 3 3:=⟨_,_,_,Tryz.underlying51,rfl,Tryz.sizeOf3,rfl,rfl⟩
theorem EF : Mh Tryz.prog 53 0 0:=⟨_,_,_,Tryz.underlying53,rfl,Tryz.sizeOf3,rfl,rfl⟩
theorem AH : Mh Tryz.prog 53 1 1:=⟨_,_,_,Tryz.underlying53,rfl,Tryz.sizeOf3,rfl,rfl⟩
theorem Zf : Mh Tryz.prog 53 2 2:=⟨_,_,_,Tryz.underlying53,rfl,Tryz.sizeOf9,rfl,rfl⟩
theorem TD : Mh Tryz.prog 53 3 3:=⟨_,_,_,Tryz.underlying53,rfl,Tryz.sizeOf9,rfl,rfl⟩
theorem OE : Mh Tryz.prog 53 4 4:=⟨_,_,_,Tryz.underlying53,rfl,Tryz.sizeOf9,rfl,rfl⟩
theorem TF : Mh Tryz.prog 53 5 5:=⟨_,_,_,Tryz.underlying53,rfl,Tryz.sizeOf9,rfl,rfl⟩
theorem TG : Mh Tryz.prog 53 6 6:=⟨_,_,_,Tryz.underlying53,rfl,Tryz.sizeOf3,rfl,rfl⟩
theorem OF : Mh Tryz.prog 53 7 7:=⟨_,_,_,Tryz.underlying53,rfl,Tryz.sizeOf3,rfl,rfl⟩
theorem fa_61_2 : Mh Tryz.prog 61 2 2:=⟨_,_,_,Tryz.underlying61,rfl,Tryz.sizeOf9,rfl,rfl⟩
theorem OG : Mh Tryz.prog 61 3 3:=⟨_,_,_,Tryz.underlying61,rfl,Tryz.sizeOf3,rfl,rfl⟩
theorem Zg : Mh Tryz.prog 86 0 0:=⟨_,_,_,Tryz.underlying86,rfl,Tryz.sizeOf3,rfl,rfl⟩
theorem GG : Mh Tryz.prog 86 1 1:=⟨_,_,_,Tryz.underlying86,rfl,Tryz.sizeOf3,rfl,rfl⟩
theorem OH : Mh Tryz.prog 86 2 2:=⟨_,_,_,Tryz.underlying86,rfl,Tryz.sizeOf3,rfl,rfl⟩
theorem JH : Mh Tryz.prog 89 0 0:=⟨_,_,_,Tryz.underlying89,rfl,Tryz.sizeOf9,rfl,rfl⟩
theorem OI : Mh Tryz.prog 89 1 1:=⟨_,_,_,Tryz.underlying89,rfl,Tryz.sizeOf3,rfl,rfl⟩
theorem OJ : Mh Tryz.prog 89 2 2:=⟨_,_,_,Tryz.underlying89,rfl,Tryz.sizeOf3,rfl,rfl⟩
theorem TH : Mh Tryz.prog 89 3 3:=⟨_,_,_,Tryz.underlying89,rfl,Tryz.sizeOf3,rfl,rfl⟩
theorem TI : Mh Tryz.prog 89 4 4:=⟨_,_,_,Tryz.underlying89,rfl,Tryz.sizeOf3,rfl,rfl⟩
theorem JI : Mh Tryz.prog 93 0 0:=⟨_,_,_,Tryz.underlying93,rfl,Tryz.sizeOf9,rfl,rfl⟩
theorem TJ : Mh Tryz.prog 93 1 1:=⟨_,_,_,Tryz.underlying93,rfl,Tryz.sizeOf3,rfl,rfl⟩
theorem Rd : Mh Tryz.prog 101 0 0:=⟨_,_,_,Tryz.underlying101,rfl,Tryz.sizeOf9,rfl,rfl⟩
theorem Tl : Mh Tryz.prog 101 1 1:=⟨_,_,_,Tryz.underlying101,rfl,Tryz.sizeOf3,rfl,rfl⟩
theorem Ul : Mh Tryz.prog 101 2 2:=⟨_,_,_,Tryz.underlying101,rfl,Tryz.sizeOf3,rfl,rfl⟩
theorem Pv : Mh Tryz.prog 101 3 3:=⟨_,_,_,Tryz.underlying101,rfl,Tryz.sizeOf3,rfl,rfl⟩
theorem Oq : Mh Tryz.prog 101 4 4:=⟨_,_,_,Tryz.underlying101,rfl,Tryz.sizeOf9,rfl,rfl⟩
theorem Vp : Mh Tryz.prog 101 5 5:=⟨_,_,_,Tryz.underlying101,rfl,Tryz.sizeOf9,rfl,rfl⟩
theorem Sm : Mh Tryz.prog 101 6 6:=⟨_,_,_,Tryz.underlying101,rfl,Tryz.sizeOf9,rfl,rfl⟩
theorem Um : Mh Tryz.prog 101 7 7:=⟨_,_,_,Tryz.underlying101,rfl,Tryz.sizeOf3,rfl,rfl⟩
theorem Ws : Mh Tryz.prog 101 8 8:=⟨_,_,_,Tryz.underlying101,rfl,Tryz.sizeOf3,rfl,rfl⟩
theorem Yr : Mh Tryz.prog 101 9 9:=⟨_,_,_,Tryz.underlying101,rfl,Tryz.sizeOf9,rfl,rfl⟩
theorem Wc : Mh Tryz.prog 101 10 10:=⟨_,_,_,Tryz.underlying101,rfl,Tryz.sizeOf3,rfl,rfl⟩
theorem DD : Mh Tryz.prog 118 0 0:=⟨_,_,_,Tryz.underlying118,rfl,Tryz.sizeOf9,rfl,rfl⟩
theorem DE : Mh Tryz.prog 118 1 1:=⟨_,_,_,Tryz.underlying118,rfl,Tryz.sizeOf3,rfl,rfl⟩
theorem AX : Mh Tryz.prog 118 2 2:=⟨_,_,_,Tryz.underlying118,rfl,Tryz.sizeOf3,rfl,rfl⟩
theorem PP : Mh Tryz.prog 118 3 3:=⟨_,_,_,Tryz.underlying118,rfl,Tryz.sizeOf3,rfl,rfl⟩
theorem Ys : Mh Tryz.prog 120 0 0:=⟨_,_,_,Tryz.underlying120,rfl,Tryz.sizeOf9,rfl,rfl⟩
theorem Yt : Mh Tryz.prog 120 1 1:=⟨_,_,_,Tryz.underlying120,rfl,Tryz.sizeOf9,rfl,rfl⟩
theorem DF : Mh Tryz.prog 120 2 2:=⟨_,_,_,Tryz.underlying120,rfl,Tryz.sizeOf9,rfl,rfl⟩
theorem Ot : Mh Tryz.prog 120 3 3:=⟨_,_,_,Tryz.underlying120,rfl,Tryz.sizeOf3,rfl,rfl⟩
theorem JZ : Mh Tryz.prog 120 4 4:=⟨_,_,_,Tryz.underlying120,rfl,Tryz.sizeOf4,rfl,rfl⟩
theorem KA : Mh Tryz.prog 128 0 0:=⟨_,_,_,Tryz.underlying128,rfl,Tryz.sizeOf32,rfl,rfl⟩
theorem GH : Mh Tryz.prog 128 1 7:=⟨_,_,_,Tryz.underlying128,rfl,Tryz.sizeOf34,rfl,rfl⟩
theorem XC : Mh Tryz.prog 131 0 0:=⟨_,_,_,Tryz.underlying131,rfl,Tryz.sizeOf9,rfl,rfl⟩
theorem XD : Mh Tryz.prog 131 1 1:=⟨_,_,_,Tryz.underlying131,rfl,Tryz.sizeOf49,rfl,rfl⟩
theorem DH : Mh Tryz.prog 170 0 0:=⟨_,_,_,Tryz.underlying170,rfl,Tryz.sizeOf9,rfl,rfl⟩
theorem PQ : Mh Tryz.prog 170 1 1:=⟨_,_,_,Tryz.underlying170,rfl,Tryz.sizeOf3,rfl,rfl⟩
theorem GI : Mh Tryz.prog 172 0 0:=⟨_,_,_,Tryz.underlying172,rfl,Tryz.sizeOf9,rfl,rfl⟩
theorem PR : Mh Tryz.prog 172 1 1:=⟨_,_,_,Tryz.underlying172,rfl,Tryz.sizeOf3,rfl,rfl⟩
theorem GJ : Mh Tryz.prog 180 0 0:=⟨_,_,_,Tryz.underlying180,rfl,Tryz.sizeOf120,rfl,rfl⟩
theorem PS : Mh Tryz.prog 180 1 5:=⟨_,_,_,Tryz.underlying180,rfl,Tryz.sizeOf49,rfl,rfl⟩
theorem AY : Mh Tryz.prog 194 0 0:=⟨_,_,_,Tryz.underlying194,rfl,Tryz.sizeOf53,rfl,rfl⟩
theorem KB : Mh Tryz.prog 194 1 8:=⟨_,_,_,Tryz.underlying194,rfl,Tryz.sizeOf4,rfl,rfl⟩
theorem DI : Mh Tryz.prog 194 2 9:=⟨_,_,_,Tryz.underlying194,rfl,Tryz.sizeOf4,rfl,rfl⟩
theorem XE : Mh Tryz.prog 199 1 1:=⟨_,_,_,Tryz.underlying199,rfl,Tryz.sizeOf3,rfl,rfl⟩
theorem XF : Mh Tryz.prog 201 2 2:=⟨_,_,_,Tryz.underlying201,rfl,Tryz.sizeOf199,rfl,rfl⟩
theorem eq_53 (dd : Nat) (x y : Ex) (w : World) : (Op.equalIn (dd + 2) 53 (.agg (Ex.enc x).toArray) (.agg (Ex.enc y).toArray)).run Tryz.prog w = .ok (decide (x = y)) w:=by
  refine Zd (dd:=dd + 1) (fs:=(Tryz.prog.fieldsOf 53).toList) (by kernel_rfl) rfl (by kernel_rfl) (?_ : _ = Result.ok (decide (x.At = y.At) && (decide (x.Kind = y.Kind) && (decide (x.Id = y.Id) && (decide (x.Who = y.Who) && (decide (x.Club = y.Club) && (decide (x.Race = y.Race) && (decide (x.Age = y.Age) && (decide (x.Time = y.Time) && true)))))))) w) (by cases x; cases y; simp [Bool.decide_and])
  simp only [Program.fieldsOf,Tryz.underlying53]
  exact (Oa (by decide) (Hv Tryz.isAgg3 rfl) (Hv Tryz.isAgg3 rfl) (Qm Tryz.underlying3) (Oa (by decide) (Hv Tryz.isAgg3 rfl) (Hv Tryz.isAgg3 rfl) (Qm Tryz.underlying3) (Oa (by decide) (Hv Tryz.isAgg9 rfl) (Hv Tryz.isAgg9 rfl) (Pz Tryz.underlying9) (Oa (by decide) (Hv Tryz.isAgg9 rfl) (Hv Tryz.isAgg9 rfl) (Pz Tryz.underlying9) (Oa (by decide) (Hv Tryz.isAgg9 rfl) (Hv Tryz.isAgg9 rfl) (Pz Tryz.underlying9) (Oa (by decide) (Hv Tryz.isAgg9 rfl) (Hv Tryz.isAgg9 rfl) (Pz Tryz.underlying9) (Oa (by decide) (Hv Tryz.isAgg3 rfl) (Hv Tryz.isAgg3 rfl) (Qm Tryz.underlying3) (Oa (by decide) (Hv Tryz.isAgg3 rfl) (Hv Tryz.isAgg3 rfl) (Qm Tryz.underlying3) JC))))))))
theorem rn_eql_53 {a : Act} {w : World} {x y : Operand} {u ty : TypeId} {m n : Ex} (hx : a.eval x = .agg (Ex.enc m).toArray) (hy : a.eval y = .agg (Ex.enc n).toArray) : Rn Tryz.prog a w (.binOp .eql 53 x y u) ty (.bool (decide (m = n))) :=
  JD 2 (by kernel_rfl) (fun w=>eq_53 _ m n w) rfl hx hy
theorem VG {a : Act} {w : World} {x y : Operand} {u ty : TypeId} {m n : Ex} (hx : a.eval x = .agg (Ex.enc m).toArray) (hy : a.eval y = .agg (Ex.enc n).toArray) : Rn Tryz.prog a w (.binOp .neq 53 x y u) ty (.bool (!decide (m = n))) :=
  JE 2 (by kernel_rfl) (fun w=>eq_53 _ m n w) rfl hx hy
theorem XG (dd : Nat) (x y : Eg) (w : World) : (Op.equalIn (dd + 2) 101 (.agg (Eg.enc x).toArray) (.agg (Eg.enc y).toArray)).run Tryz.prog w = .ok (decide (x = y)) w:=by
  refine Zd (dd:=dd + 1) (fs:=(Tryz.prog.fieldsOf 101).toList) (by kernel_rfl) rfl (by kernel_rfl) (?_ : _ = Result.ok (decide (x.Site = y.Site) && (decide (x.No = y.No) && (decide (x.At = y.At) && (decide (x.Kind = y.Kind) && (decide (x.Who = y.Who) && (decide (x.Club = y.Club) && (decide (x.Race = y.Race) && (decide (x.Time = y.Time) && (decide (x.Fault = y.Fault) && (decide (x.Of = y.Of) && (decide (x.Other = y.Other) && true))))))))))) w) (by cases x; cases y; simp [Bool.decide_and])
  simp only [Program.fieldsOf,Tryz.underlying101]
  exact (Oa (by decide) (Hv Tryz.isAgg9 rfl) (Hv Tryz.isAgg9 rfl) (Pz Tryz.underlying9) (Oa (by decide) (Hv Tryz.isAgg3 rfl) (Hv Tryz.isAgg3 rfl) (Qm Tryz.underlying3) (Oa (by decide) (Hv Tryz.isAgg3 rfl) (Hv Tryz.isAgg3 rfl) (Qm Tryz.underlying3) (Oa (by decide) (Hv Tryz.isAgg3 rfl) (Hv Tryz.isAgg3 rfl) (Qm Tryz.underlying3) (Oa (by decide) (Hv Tryz.isAgg9 rfl) (Hv Tryz.isAgg9 rfl) (Pz Tryz.underlying9) (Oa (by decide) (Hv Tryz.isAgg9 rfl) (Hv Tryz.isAgg9 rfl) (Pz Tryz.underlying9) (Oa (by decide) (Hv Tryz.isAgg9 rfl) (Hv Tryz.isAgg9 rfl) (Pz Tryz.underlying9) (Oa (by decide) (Hv Tryz.isAgg3 rfl) (Hv Tryz.isAgg3 rfl) (Qm Tryz.underlying3) (Oa (by decide) (Hv Tryz.isAgg3 rfl) (Hv Tryz.isAgg3 rfl) (Qm Tryz.underlying3) (Oa (by decide) (Hv Tryz.isAgg9 rfl) (Hv Tryz.isAgg9 rfl) (Pz Tryz.underlying9) (Oa (by decide) (Hv Tryz.isAgg3 rfl) (Hv Tryz.isAgg3 rfl) (Qm Tryz.underlying3) JC)))))))))))
theorem rn_eql_101 {a : Act} {w : World} {x y : Operand} {u ty : TypeId} {m n : Eg} (hx : a.eval x = .agg (Eg.enc m).toArray) (hy : a.eval y = .agg (Eg.enc n).toArray) : Rn Tryz.prog a w (.binOp .eql 101 x y u) ty (.bool (decide (m = n))) :=
  JD 2 (by kernel_rfl) (fun w=>XG _ m n w) rfl hx hy
theorem KC {a : Act} {w : World} {x y : Operand} {u ty : TypeId} {m n : Eg} (hx : a.eval x = .agg (Eg.enc m).toArray) (hy : a.eval y = .agg (Eg.enc n).toArray) : Rn Tryz.prog a w (.binOp .neq 101 x y u) ty (.bool (!decide (m = n))) :=
  JE 2 (by kernel_rfl) (fun w=>XG _ m n w) rfl hx hy
theorem RL (dd : Nat) (x y : Fm) (w : World) : (Op.equalIn (dd + 2) 214 (.agg (Fm.enc x).toArray) (.agg (Fm.enc y).toArray)).run Tryz.prog w = .ok (decide (x = y)) w:=by
  refine Zd (dd:=dd + 1) (fs:=(Tryz.prog.fieldsOf 214).toList) (by kernel_rfl) rfl (by kernel_rfl) (?_ : _ = Result.ok (decide (x.site_ = y.site_) && (decide (x.no_ = y.no_) && true)) w) (by cases x; cases y; simp [Bool.decide_and])
  simp only [Program.fieldsOf,Tryz.underlying214]
  exact (Oa (by decide) (Hv Tryz.isAgg9 rfl) (Hv Tryz.isAgg9 rfl) (Pz Tryz.underlying9) (Oa (by decide) (Hv Tryz.isAgg3 rfl) (Hv Tryz.isAgg3 rfl) (Qm Tryz.underlying3) JC))
theorem rn_eql_214 {a : Act} {w : World} {x y : Operand} {u ty : TypeId} {m n : Fm} (hx : a.eval x = .agg (Fm.enc m).toArray) (hy : a.eval y = .agg (Fm.enc n).toArray) : Rn Tryz.prog a w (.binOp .eql 214 x y u) ty (.bool (decide (m = n))) :=
  JD 2 (by kernel_rfl) (fun w=>RL _ m n w) rfl hx hy
theorem rn_neq_214 {a : Act} {w : World} {x y : Operand} {u ty : TypeId} {m n : Fm} (hx : a.eval x = .agg (Fm.enc m).toArray) (hy : a.eval y = .agg (Fm.enc n).toArray) : Rn Tryz.prog a w (.binOp .neq 214 x y u) ty (.bool (!decide (m = n))) :=
  JE 2 (by kernel_rfl) (fun w=>RL _ m n w) rfl hx hy
theorem RM (dd : Nat) (x y : Ge) (w : World) : (Op.equalIn (dd + 2) 260 (.agg (Ge.enc x).toArray) (.agg (Ge.enc y).toArray)).run Tryz.prog w = .ok (decide (x = y)) w:=by
  refine Zd (dd:=dd + 1) (fs:=(Tryz.prog.fieldsOf 260).toList) (by kernel_rfl) rfl (by kernel_rfl) (?_ : _ = Result.ok (decide (x.race_ = y.race_) && (decide (x.who_ = y.who_) && true)) w) (by cases x; cases y; simp [Bool.decide_and])
  simp only [Program.fieldsOf,Tryz.underlying260]
  exact (Oa (by decide) (Hv Tryz.isAgg9 rfl) (Hv Tryz.isAgg9 rfl) (Pz Tryz.underlying9) (Oa (by decide) (Hv Tryz.isAgg9 rfl) (Hv Tryz.isAgg9 rfl) (Pz Tryz.underlying9) JC))
theorem rn_eql_260 {a : Act} {w : World} {x y : Operand} {u ty : TypeId} {m n : Ge} (hx : a.eval x = .agg (Ge.enc m).toArray) (hy : a.eval y = .agg (Ge.enc n).toArray) : Rn Tryz.prog a w (.binOp .eql 260 x y u) ty (.bool (decide (m = n))) :=
  JD 2 (by kernel_rfl) (fun w=>RM _ m n w) rfl hx hy
theorem rn_neq_260 {a : Act} {w : World} {x y : Operand} {u ty : TypeId} {m n : Ge} (hx : a.eval x = .agg (Ge.enc m).toArray) (hy : a.eval y = .agg (Ge.enc n).toArray) : Rn Tryz.prog a w (.binOp .neq 260 x y u) ty (.bool (!decide (m = n))) :=
  JE 2 (by kernel_rfl) (fun w=>RM _ m n w) rfl hx hy
theorem GK : IQ Tryz.prog 214 (fun x=>Value.agg (Fm.enc x).toArray) :=
  PH 2 rfl Tryz.underlying214 (fun em x w=>SS Tryz.underlying214 (by
    intro f hf _
    simp only [List.mem_cons,List.not_mem_nil,or_false] at hf
    rcases hf with rfl | rfl
    · exact ⟨_,fun w=>Hv Tryz.isAgg9 rfl,fun w=>NQ Tryz.underlying9⟩
    · exact ⟨_,fun w=>Hv Tryz.isAgg3 rfl,fun w=>chk_int Tryz.underlying3⟩)) RL (fun x=>by simp [Instr.sameBits,Fm.enc,MG])
theorem PT : IQ Tryz.prog 260 (fun x=>Value.agg (Ge.enc x).toArray) :=
  PH 2 rfl Tryz.underlying260 (fun em x w=>SS Tryz.underlying260 (by
    intro f hf _
    simp only [List.mem_cons,List.not_mem_nil,or_false] at hf
    rcases hf with rfl | rfl
    · exact ⟨_,fun w=>Hv Tryz.isAgg9 rfl,fun w=>NQ Tryz.underlying9⟩
    · exact ⟨_,fun w=>Hv Tryz.isAgg9 rfl,fun w=>NQ Tryz.underlying9⟩)) RM (fun x=>by simp [Instr.sameBits,Ge.enc,MG])
theorem bt_25 : Ya Tryz.prog 25 (.agg #[.slice none 0 0,iV 0]) [(0,1),(1,1)]:=⟨_,Tryz.underlying25,Tryz.zeroValue25,fun _=>by kernel_rfl⟩
theorem bt_28 : Ya Tryz.prog 28 (.agg #[.slice none 0 0,iV 0,iV 0]) [(0,1),(1,1),(2,1)]:=⟨_,Tryz.underlying28,Tryz.zeroValue28,fun _=>by kernel_rfl⟩
theorem bt_30 : Ya Tryz.prog 30 (.agg #[iV 0,iV 0,iV 0]) [(0,1),(1,1),(2,1)]:=⟨_,Tryz.underlying30,Tryz.zeroValue30,fun _=>by kernel_rfl⟩
theorem bt_32 : Ya Tryz.prog 32 (.agg #[.slice none 0 0,.slice none 0 0,iV 0,iV 0,iV 0,iV 0,iV 0]) [(0,1),(1,3),(4,3)]:=⟨_,Tryz.underlying32,Tryz.zeroValue32,fun _=>by kernel_rfl⟩
theorem TK : Ya Tryz.prog 38 (.agg #[sV An,iV 0,iV 0,iV 0,iV 0,iV 0,iV 0,iV 0]) [(0,1),(1,1),(2,1),(3,1),(4,1),(5,1),(6,1),(7,1)]:=⟨_,Tryz.underlying38,Tryz.zeroValue38,fun _=>by kernel_rfl⟩
theorem TL : Ya Tryz.prog 45 (.agg #[sV An,sV An,.slice none 0 0,iV 0,iV 0]) [(0,1),(1,1),(2,1),(3,1),(4,1)]:=⟨_,Tryz.underlying45,Tryz.zeroValue45,fun _=>by kernel_rfl⟩
theorem XH : Ya Tryz.prog 49 (.agg #[iV 0,iV 0]) [(0,1),(1,1)]:=⟨_,Tryz.underlying49,Tryz.zeroValue49,fun _=>by kernel_rfl⟩
theorem bt_51 : Ya Tryz.prog 51 (.agg #[iV 0,sV An,sV An,iV 0,iV 0,iV 0,iV 0]) [(0,1),(1,1),(2,1),(3,1),(4,1),(5,2)]:=⟨_,Tryz.underlying51,Tryz.zeroValue51,fun _=>by kernel_rfl⟩
theorem bt_53 : Ya Tryz.prog 53 (.agg #[iV 0,iV 0,sV An,sV An,sV An,sV An,iV 0,iV 0]) [(0,1),(1,1),(2,1),(3,1),(4,1),(5,1),(6,1),(7,1)]:=⟨_,Tryz.underlying53,Tryz.zeroValue53,fun _=>by kernel_rfl⟩
theorem bt_61 : Ya Tryz.prog 61 (.agg #[sV An,sV An,sV An,iV 0,iV 0,bV false]) [(0,1),(1,1),(2,1),(3,1),(4,1),(5,1)]:=⟨_,Tryz.underlying61,Tryz.zeroValue61,fun _=>by kernel_rfl⟩
theorem bt_86 : Ya Tryz.prog 86 (.agg #[iV 0,iV 0,iV 0]) [(0,1),(1,1),(2,1)]:=⟨_,Tryz.underlying86,Tryz.zeroValue86,fun _=>by kernel_rfl⟩
theorem bt_89 : Ya Tryz.prog 89 (.agg #[sV An,iV 0,iV 0,iV 0,iV 0]) [(0,1),(1,1),(2,1),(3,1),(4,1)]:=⟨_,Tryz.underlying89,Tryz.zeroValue89,fun _=>by kernel_rfl⟩
theorem bt_93 : Ya Tryz.prog 93 (.agg #[sV An,iV 0]) [(0,1),(1,1)]:=⟨_,Tryz.underlying93,Tryz.zeroValue93,fun _=>by kernel_rfl⟩
theorem RN : Ya Tryz.prog 101 (.agg #[sV An,iV 0,iV 0,iV 0,sV An,sV An,sV An,iV 0,iV 0,sV An,iV 0]) [(0,1),(1,1),(2,1),(3,1),(4,1),(5,1),(6,1),(7,1),(8,1),(9,1),(10,1)]:=⟨_,Tryz.underlying101,Tryz.zeroValue101,fun _=>by kernel_rfl⟩
theorem bt_118 : Ya Tryz.prog 118 (.agg #[sV An,iV 0,iV 0,iV 0]) [(0,1),(1,1),(2,1),(3,1)]:=⟨_,Tryz.underlying118,Tryz.zeroValue118,fun _=>by kernel_rfl⟩
theorem bt_120 : Ya Tryz.prog 120 (.agg #[sV An,sV An,sV An,iV 0,bV false]) [(0,1),(1,1),(2,1),(3,1),(4,1)]:=⟨_,Tryz.underlying120,Tryz.zeroValue120,fun _=>by kernel_rfl⟩
theorem bt_128 : Ya Tryz.prog 128 (.agg #[.slice none 0 0,.slice none 0 0,iV 0,iV 0,iV 0,iV 0,iV 0,.slice none 0 0]) [(0,7),(7,1)]:=⟨_,Tryz.underlying128,Tryz.zeroValue128,fun _=>by kernel_rfl⟩
theorem bt_131 : Ya Tryz.prog 131 (.agg #[sV An,iV 0,iV 0]) [(0,1),(1,2)]:=⟨_,Tryz.underlying131,Tryz.zeroValue131,fun _=>by kernel_rfl⟩
theorem bt_170 : Ya Tryz.prog 170 (.agg #[sV An,iV 0]) [(0,1),(1,1)]:=⟨_,Tryz.underlying170,Tryz.zeroValue170,fun _=>by kernel_rfl⟩
theorem bt_172 : Ya Tryz.prog 172 (.agg #[sV An,iV 0,.slice none 0 0]) [(0,1),(1,1),(2,1)]:=⟨_,Tryz.underlying172,Tryz.zeroValue172,fun _=>by kernel_rfl⟩
theorem bt_180 : Ya Tryz.prog 180 (.agg #[sV An,sV An,sV An,iV 0,bV false,iV 0,iV 0]) [(0,5),(5,2)]:=⟨_,Tryz.underlying180,Tryz.zeroValue180,fun _=>by kernel_rfl⟩
theorem bt_194 : Ya Tryz.prog 194 (.agg #[iV 0,iV 0,sV An,sV An,sV An,sV An,iV 0,iV 0,bV false,bV false]) [(0,8),(8,1),(9,1)]:=⟨_,Tryz.underlying194,Tryz.zeroValue194,fun _=>by kernel_rfl⟩
theorem bt_199 : Ya Tryz.prog 199 (.agg #[iV 0,iV 0]) [(0,1),(1,1)]:=⟨_,Tryz.underlying199,Tryz.zeroValue199,fun _=>by kernel_rfl⟩
theorem bt_201 : Ya Tryz.prog 201 (.agg #[sV An,iV 0,iV 0,iV 0]) [(0,1),(1,1),(2,2)]:=⟨_,Tryz.underlying201,Tryz.zeroValue201,fun _=>by kernel_rfl⟩
theorem XI : Ya Tryz.prog 214 (.agg #[sV An,iV 0]) [(0,1),(1,1)]:=⟨_,Tryz.underlying214,Tryz.zeroValue214,fun _=>by kernel_rfl⟩
theorem XJ : Ya Tryz.prog 260 (.agg #[sV An,sV An]) [(0,1),(1,1)]:=⟨_,Tryz.underlying260,Tryz.zeroValue260,fun _=>by kernel_rfl⟩
end Go.Proofs.YtjofndbcioknfaaGreatDoor
