/- The program's tables,by program. -/
import Derived.Test.YtancihamhcdboaaGreatDoorTw
import Derived.Test.YtancihamhcdboaaGreatDoorArena
import Derived.Test.YtancihamhcdboaaGreatDoorProg
namespace Go.Proofs.YtancihamhcdboaaGreatDoor
open Go
def Em.enc (x : Em) : List Value:=[sV x.Key,iV x.Metres,iV x.Stroke,iV x.Course,iV x.Legs,iV x.Sex,iV x.Young,iV x.Old]
theorem Em.enc_ok : Enc 8 Em.enc:=⟨fun _=>rfl,fun _ u h=>by simp [Em.enc] at h; rcases h with rfl | rfl | rfl | rfl | rfl | rfl | rfl | rfl <;> rfl⟩
def Uh.enc (x : Uh) : List Value:=[iV x.Size,iV x.Many,iV x.Reserves]
theorem Uh.enc_ok : Enc 3 Uh.enc:=⟨fun _=>rfl,fun _ u h=>by simp [Uh.enc] at h; rcases h with rfl | rfl | rfl <;> rfl⟩
def Dx.enc (x : Dx) : List Value:=[sV x.Site,iV x.No,iV x.At,iV x.Kind,sV x.Who,sV x.Club,sV x.Race,iV x.Time,iV x.Fault,sV x.Of,iV x.Other]
theorem Dx.enc_ok : Enc 11 Dx.enc:=⟨fun _=>rfl,fun _ u h=>by simp [Dx.enc] at h; rcases h with rfl | rfl | rfl | rfl | rfl | rfl | rfl | rfl | rfl | rfl | rfl <;> rfl⟩
def Eo.enc (x : Eo) : List Value:=[sV x.site_,iV x.no_]
theorem Eo.enc_ok : Enc 2 Eo.enc:=⟨fun _=>rfl,fun _ u h=>by simp [Eo.enc] at h; rcases h with rfl | rfl <;> rfl⟩
def Ee.enc (x : Ee) : List Value:=[iV x.Num,iV x.Den]
theorem Ee.enc_ok : Enc 2 Ee.enc:=⟨fun _=>rfl,fun _ u h=>by simp [Ee.enc] at h; rcases h with rfl | rfl <;> rfl⟩
def Ih.enc (x : Ih) : List Value:=[iV x.Rank,sV x.Who,sV x.Club,iV x.Time,iV x.Fault,iV x.Points.Num,iV x.Points.Den]
theorem Ih.enc_ok : Enc 7 Ih.enc:=⟨fun _=>rfl,fun _ u h=>by simp [Ih.enc] at h; rcases h with rfl | rfl | rfl | rfl | rfl | rfl | rfl <;> rfl⟩
def Kg.enc (x : Kg) : List Value:=[sV x.Who,iV x.Time]
theorem Kg.enc_ok : Enc 2 Kg.enc:=⟨fun _=>rfl,fun _ u h=>by simp [Kg.enc] at h; rcases h with rfl | rfl <;> rfl⟩
def Eb.enc (x : Eb) : List Value:=[sV x.Who,iV x.Rank,iV x.Time,iV x.Fault]
theorem Eb.enc_ok : Enc 4 Eb.enc:=⟨fun _=>rfl,fun _ u h=>by simp [Eb.enc] at h; rcases h with rfl | rfl | rfl | rfl <;> rfl⟩
def Dy.enc (x : Dy) : List Value:=[sV x.Race,sV x.Who,sV x.Club,iV x.Rank,bV x.Relay]
theorem Dy.enc_ok : Enc 5 Dy.enc:=⟨fun _=>rfl,fun _ u h=>by simp [Dy.enc] at h; rcases h with rfl | rfl | rfl | rfl | rfl <;> rfl⟩
def Fv.enc (x : Fv) : List Value:=[sV x.race_,sV x.who_]
theorem Fv.enc_ok : Enc 2 Fv.enc:=⟨fun _=>rfl,fun _ u h=>by simp [Fv.enc] at h; rcases h with rfl | rfl <;> rfl⟩
def Ej.enc (x : Ej) : List Value:=[sV x.Key,iV x.Points.Num,iV x.Points.Den]
theorem Ej.enc_ok : Enc 3 Ej.enc:=⟨fun _=>rfl,fun _ u h=>by simp [Ej.enc] at h; rcases h with rfl | rfl | rfl <;> rfl⟩
def Eg.enc (x : Eg) : List Value:=[sV x.x_.Race,sV x.x_.Who,sV x.x_.Club,iV x.x_.Rank,bV x.x_.Relay,iV x.points_.Num,iV x.points_.Den]
theorem Eg.enc_ok : Enc 7 Eg.enc:=⟨fun _=>rfl,fun _ u h=>by simp [Eg.enc] at h; rcases h with rfl | rfl | rfl | rfl | rfl | rfl | rfl <;> rfl⟩
def Nq.enc (x : Nq) : List Value:=[iV x.Year,iV x.Month,iV x.Day]
theorem Nq.enc_ok : Enc 3 Nq.enc:=⟨fun _=>rfl,fun _ u h=>by simp [Nq.enc] at h; rcases h with rfl | rfl | rfl <;> rfl⟩
def Ov.enc (x : Ov) : List Value:=[sV x.Key,iV x.Heats,iV x.Long,iV x.Gap,iV x.Break]
theorem Ov.enc_ok : Enc 5 Ov.enc:=⟨fun _=>rfl,fun _ u h=>by simp [Ov.enc] at h; rcases h with rfl | rfl | rfl | rfl | rfl <;> rfl⟩
def Ve.enc (x : Ve) : List Value:=[iV x.From,iV x.To]
theorem Ve.enc_ok : Enc 2 Ve.enc:=⟨fun _=>rfl,fun _ u h=>by simp [Ve.enc] at h; rcases h with rfl | rfl <;> rfl⟩
def Lq.enc (x : Lq) : List Value:=[sV x.Item,iV x.Heat,iV x.Time.From,iV x.Time.To]
theorem Lq.enc_ok : Enc 4 Lq.enc:=⟨fun _=>rfl,fun _ u h=>by simp [Lq.enc] at h; rcases h with rfl | rfl | rfl | rfl <;> rfl⟩
def Sp.enc (x : Sp) : List Value:=[sV x.Race,iV x.Time]
theorem Sp.enc_ok : Enc 2 Sp.enc:=⟨fun _=>rfl,fun _ u h=>by simp [Sp.enc] at h; rcases h with rfl | rfl <;> rfl⟩
def Li.enc (x : Li) : List Value:=[iV x.At,iV x.Kind,sV x.Id,sV x.Who,sV x.Club,sV x.Race,iV x.Age,iV x.Time]
theorem Li.enc_ok : Enc 8 Li.enc:=⟨fun _=>rfl,fun _ u h=>by simp [Li.enc] at h; rcases h with rfl | rfl | rfl | rfl | rfl | rfl | rfl | rfl <;> rfl⟩
structure R28 where
  mk ::
  (Points : RS)
  (Relay : Int)
  (Most : Int)
def R28.enc (x : R28) : List Value:=[x.Points.val,iV x.Relay,iV x.Most]
theorem R28.enc_ok : Enc 3 R28.enc:=⟨fun _=>rfl,fun x u h=>by
    simp only [R28.enc,List.mem_cons,List.not_mem_nil,or_false] at h
    rcases h with rfl | rfl | rfl
    · exact x.Points.property
    · exact rfl
    · exact rfl⟩
def Zh (φ : View) (x : Mz) (r : R28) : Prop:=∃ u1 : RS,r = ⟨u1,x.Relay,x.Most⟩ ∧ Slc φ 1 u1.val (x.Points.map eInt)
theorem Zx {φ ψ : View} (l : View.le φ ψ) (x : Mz) (r : R28) (h : Zh φ x r) : Zh ψ x r:=by
  obtain ⟨u1,e,h1⟩:=h
  exact ⟨u1,e,h1.mono l⟩
theorem rels_28 {φ ψ : View} (l : View.le φ ψ) {xs : List Mz} {rs : List R28} (h : Mg (Zh φ) xs rs) : Mg (Zh ψ) xs rs:=h.chg (Zx l)
structure R32 where
  mk ::
  (Races : RS)
  (Table : R28)
  (Final : Uh)
def R32.enc (x : R32) : List Value:=[x.Races.val] ++ R28.enc x.Table ++ [iV x.Final.Size,iV x.Final.Many,iV x.Final.Reserves]
theorem R32.enc_ok : Enc 7 R32.enc:=⟨fun x=>by simp [R32.enc,R28.enc_ok.len],fun x u h=>by
    simp only [R32.enc,List.mem_append,List.mem_cons,List.not_mem_nil,or_false] at h
    first
    | (rcases h with (h | h) | h
       · rcases h with rfl
         · exact x.Races.property
       · exact R28.enc_ok.one _ u h
       · rcases h with rfl | rfl | rfl
         · exact rfl
         · exact rfl
         · exact rfl)⟩
def Tp (φ : View) (x : Kq) (r : R32) : Prop:=∃ u1 : RS,∃ u2 : R28,r = ⟨u1,u2,x.Final⟩ ∧ Slc φ 8 u1.val (x.Races.map Em.enc) ∧ Zh φ x.Table u2
theorem Yi {φ ψ : View} (l : View.le φ ψ) (x : Kq) (r : R32) (h : Tp φ x r) : Tp ψ x r:=by
  obtain ⟨u1,u2,e,h1,h2⟩:=h
  exact ⟨u1,u2,e,h1.mono l,Zx l _ _ h2⟩
theorem rels_32 {φ ψ : View} (l : View.le φ ψ) {xs : List Kq} {rs : List R32} (h : Mg (Tp φ) xs rs) : Mg (Tp ψ) xs rs:=h.chg (Yi l)
structure GJ where
  mk ::
  (p_ : R32)
  (deeds_ : RS)
def GJ.enc (x : GJ) : List Value:=R32.enc x.p_ ++ [x.deeds_.val]
theorem GJ.enc_ok : Enc 8 GJ.enc:=⟨fun x=>by simp [GJ.enc,R32.enc_ok.len],fun x u h=>by
    simp only [GJ.enc,List.mem_append,List.mem_cons,List.not_mem_nil,or_false] at h
    first
    | (rcases h with h | h
       · exact R32.enc_ok.one _ u h
       · rcases h with rfl
         · exact x.deeds_.property)⟩
def BO (φ : View) (x : Lc) (r : GJ) : Prop:=∃ u1 : R32,∃ u2 : RS,r = ⟨u1,u2⟩ ∧ Tp φ x.p_ u1 ∧ Slc φ 11 u2.val (x.deeds_.map Dx.enc)
theorem Sh {φ ψ : View} (l : View.le φ ψ) (x : Lc) (r : GJ) (h : BO φ x r) : BO ψ x r:=by
  obtain ⟨u1,u2,e,h1,h2⟩:=h
  exact ⟨u1,u2,e,Yi l _ _ h1,h2.mono l⟩
theorem rels_134 {φ ψ : View} (l : View.le φ ψ) {xs : List Lc} {rs : List GJ} (h : Mg (BO φ) xs rs) : Mg (BO ψ) xs rs:=h.chg (Sh l)
structure Tz where
  mk ::
  (Who : ByteArray)
  (Fault : Int)
  (Reports : RS)
def Tz.enc (x : Tz) : List Value:=[sV x.Who,iV x.Fault,x.Reports.val]
theorem Tz.enc_ok : Enc 3 Tz.enc:=⟨fun _=>rfl,fun x u h=>by
    simp only [Tz.enc,List.mem_cons,List.not_mem_nil,or_false] at h
    rcases h with rfl | rfl | rfl
    · exact rfl
    · exact rfl
    · exact x.Reports.property⟩
def Wf (φ : View) (x : Iw) (r : Tz) : Prop:=∃ u1 : RS,r = ⟨x.Who,x.Fault,u1⟩ ∧ Slc φ 1 u1.val (x.Reports.map EN)
theorem NO {φ ψ : View} (l : View.le φ ψ) (x : Iw) (r : Tz) (h : Wf φ x r) : Wf ψ x r:=by
  obtain ⟨u1,e,h1⟩:=h
  exact ⟨u1,e,h1.mono l⟩
theorem JU {φ ψ : View} (l : View.le φ ψ) {xs : List Iw} {rs : List Tz} (h : Mg (Wf φ) xs rs) : Mg (Wf ψ) xs rs:=h.chg (NO l)
def Zy (φ : View) (x : (List Dy)) (r : RS) : Prop:=Slc φ 5 r.val (x.map Dy.enc)
theorem NP {φ ψ : View} (l : View.le φ ψ) (x : (List Dy)) (r : RS) (h : Zy φ x r) : Zy ψ x r:=Slc.mono h l
theorem GK {φ ψ : View} (l : View.le φ ψ) {xs : List (List Dy)} {rs : List RS} (h : Mg (Zy φ) xs rs) : Mg (Zy ψ) xs rs:=h.chg (NP l)
structure R99 where
  mk ::
  (Key : ByteArray)
  (Race : ByteArray)
  (Clubs : RS)
  (Young : Int)
  (Old : Int)
def R99.enc (x : R99) : List Value:=[sV x.Key,sV x.Race,x.Clubs.val,iV x.Young,iV x.Old]
theorem R99.enc_ok : Enc 5 R99.enc:=⟨fun _=>rfl,fun x u h=>by
    simp only [R99.enc,List.mem_cons,List.not_mem_nil,or_false] at h
    rcases h with rfl | rfl | rfl | rfl | rfl
    · exact rfl
    · exact rfl
    · exact x.Clubs.property
    · exact rfl
    · exact rfl⟩
def CX (φ : View) (x : Vw) (r : R99) : Prop:=∃ u1 : RS,r = ⟨x.Key,x.Race,u1,x.Young,x.Old⟩ ∧ Slc φ 1 u1.val (x.Clubs.map EN)
theorem PG {φ ψ : View} (l : View.le φ ψ) (x : Vw) (r : R99) (h : CX φ x r) : CX ψ x r:=by
  obtain ⟨u1,e,h1⟩:=h
  exact ⟨u1,e,h1.mono l⟩
theorem TC {φ ψ : View} (l : View.le φ ψ) {xs : List Vw} {rs : List R99} (h : Mg (CX φ) xs rs) : Mg (CX ψ) xs rs:=h.chg (PG l)
theorem Tryz.mixed : Tryz.prog.follows .mixedOrders = true:=by kernel_rfl
theorem Pj : SlT Tryz.prog 22 3 1 8:=Ut (z:=(iV 0)) Tryz.underlying22 Tryz.sizeOf3 (by kernel_rfl) rfl
theorem Th : SlT Tryz.prog 26 43 8 72:=Ut (z:=(.agg #[sV An,iV 0,iV 0,iV 0,iV 0,iV 0,iV 0,iV 0])) Tryz.underlying26 Tryz.sizeOf43 (by kernel_rfl) rfl
theorem La : SlT Tryz.prog 34 41 11 128:=Ut (z:=(.agg #[sV An,iV 0,iV 0,iV 0,sV An,sV An,sV An,iV 0,iV 0,sV An,iV 0])) Tryz.underlying34 Tryz.sizeOf41 (by kernel_rfl) rfl
theorem PH : SlT Tryz.prog 44 51 7 72:=Ut (z:=(.agg #[iV 0,sV An,sV An,iV 0,iV 0,iV 0,iV 0])) Tryz.underlying44 Tryz.sizeOf51 (by kernel_rfl) rfl
theorem AL : SlT Tryz.prog 52 57 3 32:=Ut (z:=(.agg #[sV An,iV 0,iV 0])) Tryz.underlying52 Tryz.sizeOf57 (by kernel_rfl) rfl
theorem PI : SlT Tryz.prog 90 89 5 48:=Ut (z:=(.agg #[sV An,iV 0,iV 0,iV 0,iV 0])) Tryz.underlying90 Tryz.sizeOf89 (by kernel_rfl) rfl
theorem MM : SlT Tryz.prog 94 93 2 24:=Ut (z:=(.agg #[sV An,iV 0])) Tryz.underlying94 Tryz.sizeOf93 (by kernel_rfl) rfl
theorem AM : SlT Tryz.prog 95 9 1 16:=Ut (z:=(sV An)) Tryz.underlying95 Tryz.sizeOf9 (by kernel_rfl) rfl
theorem HU : SlT Tryz.prog 100 99 5 72:=Ut (z:=(.agg #[sV An,sV An,.slice none 0 0,iV 0,iV 0])) Tryz.underlying100 Tryz.sizeOf99 (by kernel_rfl) rfl
theorem Te : SlT Tryz.prog 121 127 4 40:=Ut (z:=(.agg #[sV An,iV 0,iV 0,iV 0])) Tryz.underlying121 Tryz.sizeOf127 (by kernel_rfl) rfl
theorem Oo : SlT Tryz.prog 125 129 5 64:=Ut (z:=(.agg #[sV An,sV An,sV An,iV 0,bV false])) Tryz.underlying125 Tryz.sizeOf129 (by kernel_rfl) rfl
theorem NQ : SlT Tryz.prog 145 199 4 40:=Ut (z:=(.agg #[sV An,iV 0,iV 0,iV 0])) Tryz.underlying145 Tryz.sizeOf199 (by kernel_rfl) rfl
theorem WX : SlT Tryz.prog 154 36 1 8:=Ut (z:=(iV 0)) Tryz.underlying154 Tryz.sizeOf36 (by kernel_rfl) rfl
theorem HV : SlT Tryz.prog 174 177 2 24:=Ut (z:=(.agg #[sV An,iV 0])) Tryz.underlying174 Tryz.sizeOf177 (by kernel_rfl) rfl
theorem FL : SlT Tryz.prog 175 179 3 48:=Ut (z:=(.agg #[sV An,iV 0,.slice none 0 0])) Tryz.underlying175 Tryz.sizeOf179 (by kernel_rfl) rfl
theorem CY : SlT Tryz.prog 184 187 7 80:=Ut (z:=(.agg #[sV An,sV An,sV An,iV 0,bV false,iV 0,iV 0])) Tryz.underlying184 Tryz.sizeOf187 (by kernel_rfl) rfl
theorem BP : SlT Tryz.prog 216 125 1 24:=Ut (z:=(.slice none 0 0)) Tryz.underlying216 Tryz.sizeOf125 (by kernel_rfl) rfl
theorem JG : Mp Tryz.prog 25 0 0:=⟨_,_,_,Tryz.underlying25,rfl,Tryz.sizeOf22,rfl,rfl⟩
theorem GL : Mp Tryz.prog 25 1 1:=⟨_,_,_,Tryz.underlying25,rfl,Tryz.sizeOf3,rfl,rfl⟩
theorem Yx : Mp Tryz.prog 28 0 0:=⟨_,_,_,Tryz.underlying28,rfl,Tryz.sizeOf22,rfl,rfl⟩
theorem TD : Mp Tryz.prog 28 1 1:=⟨_,_,_,Tryz.underlying28,rfl,Tryz.sizeOf3,rfl,rfl⟩
theorem NR : Mp Tryz.prog 28 2 2:=⟨_,_,_,Tryz.underlying28,rfl,Tryz.sizeOf3,rfl,rfl⟩
theorem fa_30_0 : Mp Tryz.prog 30 0 0:=⟨_,_,_,Tryz.underlying30,rfl,Tryz.sizeOf3,rfl,rfl⟩
theorem fa_30_1 : Mp Tryz.prog 30 1 1:=⟨_,_,_,Tryz.underlying30,rfl,Tryz.sizeOf3,rfl,rfl⟩
theorem fa_30_2 : Mp Tryz.prog 30 2 2:=⟨_,_,_,Tryz.underlying30,rfl,Tryz.sizeOf3,rfl,rfl⟩
theorem Xc : Mp Tryz.prog 32 0 0:=⟨_,_,_,Tryz.underlying32,rfl,Tryz.sizeOf26,rfl,rfl⟩
theorem JH : Mp Tryz.prog 32 1 1:=⟨_,_,_,Tryz.underlying32,rfl,Tryz.sizeOf28,rfl,rfl⟩
theorem fa_32_2 : Mp Tryz.prog 32 2 4:=⟨_,_,_,Tryz.underlying32,rfl,Tryz.sizeOf30,rfl,rfl⟩
theorem Sy : Mp Tryz.prog 41 0 0:=⟨_,_,_,Tryz.underlying41,rfl,Tryz.sizeOf9,rfl,rfl⟩
theorem Vi : Mp Tryz.prog 41 1 1:=⟨_,_,_,Tryz.underlying41,rfl,Tryz.sizeOf3,rfl,rfl⟩
theorem Wg : Mp Tryz.prog 41 2 2:=⟨_,_,_,Tryz.underlying41,rfl,Tryz.sizeOf3,rfl,rfl⟩
theorem Qu : Mp Tryz.prog 41 3 3:=⟨_,_,_,Tryz.underlying41,rfl,Tryz.sizeOf3,rfl,rfl⟩
theorem Qc : Mp Tryz.prog 41 4 4:=⟨_,_,_,Tryz.underlying41,rfl,Tryz.sizeOf9,rfl,rfl⟩
theorem Um : Mp Tryz.prog 41 5 5:=⟨_,_,_,Tryz.underlying41,rfl,Tryz.sizeOf9,rfl,rfl⟩
theorem Un : Mp Tryz.prog 41 6 6:=⟨_,_,_,Tryz.underlying41,rfl,Tryz.sizeOf9,rfl,rfl⟩
theorem Wh : Mp Tryz.prog 41 7 7:=⟨_,_,_,Tryz.underlying41,rfl,Tryz.sizeOf3,rfl,rfl⟩
theorem Xz : Mp Tryz.prog 41 8 8:=⟨_,_,_,Tryz.underlying41,rfl,Tryz.sizeOf3,rfl,rfl⟩
theorem Zz : Mp Tryz.prog 41 9 9:=⟨_,_,_,Tryz.underlying41,rfl,Tryz.sizeOf9,rfl,rfl⟩
theorem Xd : Mp Tryz.prog 41 10 10:=⟨_,_,_,Tryz.underlying41,rfl,Tryz.sizeOf3,rfl,rfl⟩
theorem Ya : Mp Tryz.prog 43 0 0:=⟨_,_,_,Tryz.underlying43,rfl,Tryz.sizeOf9,rfl,rfl⟩
theorem NS : Mp Tryz.prog 43 1 1:=⟨_,_,_,Tryz.underlying43,rfl,Tryz.sizeOf3,rfl,rfl⟩
theorem NT : Mp Tryz.prog 43 2 2:=⟨_,_,_,Tryz.underlying43,rfl,Tryz.sizeOf3,rfl,rfl⟩
theorem JI : Mp Tryz.prog 43 3 3:=⟨_,_,_,Tryz.underlying43,rfl,Tryz.sizeOf3,rfl,rfl⟩
theorem GM : Mp Tryz.prog 43 4 4:=⟨_,_,_,Tryz.underlying43,rfl,Tryz.sizeOf3,rfl,rfl⟩
theorem fa_43_5 : Mp Tryz.prog 43 5 5:=⟨_,_,_,Tryz.underlying43,rfl,Tryz.sizeOf3,rfl,rfl⟩
theorem NU : Mp Tryz.prog 43 6 6:=⟨_,_,_,Tryz.underlying43,rfl,Tryz.sizeOf3,rfl,rfl⟩
theorem NV : Mp Tryz.prog 43 7 7:=⟨_,_,_,Tryz.underlying43,rfl,Tryz.sizeOf3,rfl,rfl⟩
theorem TF : Mp Tryz.prog 49 0 0:=⟨_,_,_,Tryz.underlying49,rfl,Tryz.sizeOf3,rfl,rfl⟩
theorem JJ : Mp Tryz.prog 49 1 1:=⟨_,_,_,Tryz.underlying49,rfl,Tryz.sizeOf3,rfl,rfl⟩
theorem NW : Mp Tryz.prog 51 2 2:=⟨_,_,_,Tryz.underlying51,rfl,Tryz.sizeOf9,rfl,rfl⟩
theorem fa_51_5 : Mp Tryz.prog 51 5 5:=⟨_,_,_,Tryz.underlying51,rfl,Tryz.sizeOf49,rfl,rfl⟩
theorem NX : Mp Tryz.prog 57 0 0:=⟨_,_,_,Tryz.underlying57,rfl,Tryz.sizeOf9,rfl,rfl⟩
theorem fa_57_1 : Mp Tryz.prog 57 1 1:=⟨_,_,_,Tryz.underlying57,rfl,Tryz.sizeOf49,rfl,rfl⟩
theorem Yy : Mp Tryz.prog 86 0 0:=⟨_,_,_,Tryz.underlying86,rfl,Tryz.sizeOf3,rfl,rfl⟩
theorem GN : Mp Tryz.prog 86 1 1:=⟨_,_,_,Tryz.underlying86,rfl,Tryz.sizeOf3,rfl,rfl⟩
theorem NY : Mp Tryz.prog 86 2 2:=⟨_,_,_,Tryz.underlying86,rfl,Tryz.sizeOf3,rfl,rfl⟩
theorem JK : Mp Tryz.prog 89 0 0:=⟨_,_,_,Tryz.underlying89,rfl,Tryz.sizeOf9,rfl,rfl⟩
theorem NZ : Mp Tryz.prog 89 1 1:=⟨_,_,_,Tryz.underlying89,rfl,Tryz.sizeOf3,rfl,rfl⟩
theorem OA : Mp Tryz.prog 89 2 2:=⟨_,_,_,Tryz.underlying89,rfl,Tryz.sizeOf3,rfl,rfl⟩
theorem TG : Mp Tryz.prog 89 3 3:=⟨_,_,_,Tryz.underlying89,rfl,Tryz.sizeOf3,rfl,rfl⟩
theorem TH : Mp Tryz.prog 89 4 4:=⟨_,_,_,Tryz.underlying89,rfl,Tryz.sizeOf3,rfl,rfl⟩
theorem JL : Mp Tryz.prog 93 0 0:=⟨_,_,_,Tryz.underlying93,rfl,Tryz.sizeOf9,rfl,rfl⟩
theorem TI : Mp Tryz.prog 93 1 1:=⟨_,_,_,Tryz.underlying93,rfl,Tryz.sizeOf3,rfl,rfl⟩
theorem JM : Mp Tryz.prog 99 0 0:=⟨_,_,_,Tryz.underlying99,rfl,Tryz.sizeOf9,rfl,rfl⟩
theorem TJ : Mp Tryz.prog 99 1 1:=⟨_,_,_,Tryz.underlying99,rfl,Tryz.sizeOf9,rfl,rfl⟩
theorem GO : Mp Tryz.prog 99 2 2:=⟨_,_,_,Tryz.underlying99,rfl,Tryz.sizeOf95,rfl,rfl⟩
theorem OB : Mp Tryz.prog 99 3 3:=⟨_,_,_,Tryz.underlying99,rfl,Tryz.sizeOf3,rfl,rfl⟩
theorem OC : Mp Tryz.prog 99 4 4:=⟨_,_,_,Tryz.underlying99,rfl,Tryz.sizeOf3,rfl,rfl⟩
theorem PJ : Mp Tryz.prog 102 0 0:=⟨_,_,_,Tryz.underlying102,rfl,Tryz.sizeOf3,rfl,rfl⟩
theorem GP : Mp Tryz.prog 102 1 1:=⟨_,_,_,Tryz.underlying102,rfl,Tryz.sizeOf3,rfl,rfl⟩
theorem PK : Mp Tryz.prog 102 2 2:=⟨_,_,_,Tryz.underlying102,rfl,Tryz.sizeOf9,rfl,rfl⟩
theorem WY : Mp Tryz.prog 102 3 3:=⟨_,_,_,Tryz.underlying102,rfl,Tryz.sizeOf9,rfl,rfl⟩
theorem JV : Mp Tryz.prog 102 4 4:=⟨_,_,_,Tryz.underlying102,rfl,Tryz.sizeOf9,rfl,rfl⟩
theorem PL : Mp Tryz.prog 102 5 5:=⟨_,_,_,Tryz.underlying102,rfl,Tryz.sizeOf9,rfl,rfl⟩
theorem PM : Mp Tryz.prog 102 6 6:=⟨_,_,_,Tryz.underlying102,rfl,Tryz.sizeOf3,rfl,rfl⟩
theorem WZ : Mp Tryz.prog 102 7 7:=⟨_,_,_,Tryz.underlying102,rfl,Tryz.sizeOf3,rfl,rfl⟩
theorem CZ : Mp Tryz.prog 127 0 0:=⟨_,_,_,Tryz.underlying127,rfl,Tryz.sizeOf9,rfl,rfl⟩
theorem DA : Mp Tryz.prog 127 1 1:=⟨_,_,_,Tryz.underlying127,rfl,Tryz.sizeOf3,rfl,rfl⟩
theorem AN : Mp Tryz.prog 127 2 2:=⟨_,_,_,Tryz.underlying127,rfl,Tryz.sizeOf3,rfl,rfl⟩
theorem PN : Mp Tryz.prog 127 3 3:=⟨_,_,_,Tryz.underlying127,rfl,Tryz.sizeOf3,rfl,rfl⟩
theorem Yj : Mp Tryz.prog 129 0 0:=⟨_,_,_,Tryz.underlying129,rfl,Tryz.sizeOf9,rfl,rfl⟩
theorem Yk : Mp Tryz.prog 129 1 1:=⟨_,_,_,Tryz.underlying129,rfl,Tryz.sizeOf9,rfl,rfl⟩
theorem DB : Mp Tryz.prog 129 2 2:=⟨_,_,_,Tryz.underlying129,rfl,Tryz.sizeOf9,rfl,rfl⟩
theorem Oq : Mp Tryz.prog 129 3 3:=⟨_,_,_,Tryz.underlying129,rfl,Tryz.sizeOf3,rfl,rfl⟩
theorem JW : Mp Tryz.prog 129 4 4:=⟨_,_,_,Tryz.underlying129,rfl,Tryz.sizeOf4,rfl,rfl⟩
theorem DC : Mp Tryz.prog 134 0 0:=⟨_,_,_,Tryz.underlying134,rfl,Tryz.sizeOf32,rfl,rfl⟩
theorem GQ : Mp Tryz.prog 134 1 7:=⟨_,_,_,Tryz.underlying134,rfl,Tryz.sizeOf34,rfl,rfl⟩
theorem DD : Mp Tryz.prog 177 0 0:=⟨_,_,_,Tryz.underlying177,rfl,Tryz.sizeOf9,rfl,rfl⟩
theorem PO : Mp Tryz.prog 177 1 1:=⟨_,_,_,Tryz.underlying177,rfl,Tryz.sizeOf3,rfl,rfl⟩
theorem GR : Mp Tryz.prog 179 0 0:=⟨_,_,_,Tryz.underlying179,rfl,Tryz.sizeOf9,rfl,rfl⟩
theorem PP : Mp Tryz.prog 179 1 1:=⟨_,_,_,Tryz.underlying179,rfl,Tryz.sizeOf3,rfl,rfl⟩
theorem GS : Mp Tryz.prog 187 0 0:=⟨_,_,_,Tryz.underlying187,rfl,Tryz.sizeOf129,rfl,rfl⟩
theorem PQ : Mp Tryz.prog 187 1 5:=⟨_,_,_,Tryz.underlying187,rfl,Tryz.sizeOf49,rfl,rfl⟩
theorem XA : Mp Tryz.prog 197 1 1:=⟨_,_,_,Tryz.underlying197,rfl,Tryz.sizeOf3,rfl,rfl⟩
theorem XB : Mp Tryz.prog 199 2 2:=⟨_,_,_,Tryz.underlying199,rfl,Tryz.sizeOf197,rfl,rfl⟩
theorem eq_41 (dd : Nat) (x y : Dx) (w : World) : (Op.equalIn (dd + 2) 41 (.agg (Dx.enc x).toArray) (.agg (Dx.enc y).toArray)).run Tryz.prog w = .ok (decide (x = y)) w:=by
  refine Ws (dd:=dd + 1) (fs:=(Tryz.prog.fieldsOf 41).toList) (by kernel_rfl) rfl (by kernel_rfl) (?_ : _ = Result.ok (decide (x.Site = y.Site) && (decide (x.No = y.No) && (decide (x.At = y.At) && (decide (x.Kind = y.Kind) && (decide (x.Who = y.Who) && (decide (x.Club = y.Club) && (decide (x.Race = y.Race) && (decide (x.Time = y.Time) && (decide (x.Fault = y.Fault) && (decide (x.Of = y.Of) && (decide (x.Other = y.Other) && true))))))))))) w) (by cases x; cases y; simp [Bool.decide_and])
  simp only [Program.fieldsOf,Tryz.underlying41]
  exact (Kw (by decide) (Gd Tryz.isAgg9 rfl) (Gd Tryz.isAgg9 rfl) (Pa Tryz.underlying9) (Kw (by decide) (Gd Tryz.isAgg3 rfl) (Gd Tryz.isAgg3 rfl) (Ma Tryz.underlying3) (Kw (by decide) (Gd Tryz.isAgg3 rfl) (Gd Tryz.isAgg3 rfl) (Ma Tryz.underlying3) (Kw (by decide) (Gd Tryz.isAgg3 rfl) (Gd Tryz.isAgg3 rfl) (Ma Tryz.underlying3) (Kw (by decide) (Gd Tryz.isAgg9 rfl) (Gd Tryz.isAgg9 rfl) (Pa Tryz.underlying9) (Kw (by decide) (Gd Tryz.isAgg9 rfl) (Gd Tryz.isAgg9 rfl) (Pa Tryz.underlying9) (Kw (by decide) (Gd Tryz.isAgg9 rfl) (Gd Tryz.isAgg9 rfl) (Pa Tryz.underlying9) (Kw (by decide) (Gd Tryz.isAgg3 rfl) (Gd Tryz.isAgg3 rfl) (Ma Tryz.underlying3) (Kw (by decide) (Gd Tryz.isAgg3 rfl) (Gd Tryz.isAgg3 rfl) (Ma Tryz.underlying3) (Kw (by decide) (Gd Tryz.isAgg9 rfl) (Gd Tryz.isAgg9 rfl) (Pa Tryz.underlying9) (Kw (by decide) (Gd Tryz.isAgg3 rfl) (Gd Tryz.isAgg3 rfl) (Ma Tryz.underlying3) GE)))))))))))
theorem rn_eql_41 {a : Act} {w : World} {x y : Operand} {u ty : TypeId} {m n : Dx} (hx : a.eval x = .agg (Dx.enc m).toArray) (hy : a.eval y = .agg (Dx.enc n).toArray) : Rn Tryz.prog a w (.binOp .eql 41 x y u) ty (.bool (decide (m = n))) :=
  GF 2 (by kernel_rfl) (fun w=>eq_41 _ m n w) rfl hx hy
theorem EE {a : Act} {w : World} {x y : Operand} {u ty : TypeId} {m n : Dx} (hx : a.eval x = .agg (Dx.enc m).toArray) (hy : a.eval y = .agg (Dx.enc n).toArray) : Rn Tryz.prog a w (.binOp .neq 41 x y u) ty (.bool (!decide (m = n))) :=
  GG 2 (by kernel_rfl) (fun w=>eq_41 _ m n w) rfl hx hy
theorem eq_43 (dd : Nat) (x y : Em) (w : World) : (Op.equalIn (dd + 2) 43 (.agg (Em.enc x).toArray) (.agg (Em.enc y).toArray)).run Tryz.prog w = .ok (decide (x = y)) w:=by
  refine Ws (dd:=dd + 1) (fs:=(Tryz.prog.fieldsOf 43).toList) (by kernel_rfl) rfl (by kernel_rfl) (?_ : _ = Result.ok (decide (x.Key = y.Key) && (decide (x.Metres = y.Metres) && (decide (x.Stroke = y.Stroke) && (decide (x.Course = y.Course) && (decide (x.Legs = y.Legs) && (decide (x.Sex = y.Sex) && (decide (x.Young = y.Young) && (decide (x.Old = y.Old) && true)))))))) w) (by cases x; cases y; simp [Bool.decide_and])
  simp only [Program.fieldsOf,Tryz.underlying43]
  exact (Kw (by decide) (Gd Tryz.isAgg9 rfl) (Gd Tryz.isAgg9 rfl) (Pa Tryz.underlying9) (Kw (by decide) (Gd Tryz.isAgg3 rfl) (Gd Tryz.isAgg3 rfl) (Ma Tryz.underlying3) (Kw (by decide) (Gd Tryz.isAgg3 rfl) (Gd Tryz.isAgg3 rfl) (Ma Tryz.underlying3) (Kw (by decide) (Gd Tryz.isAgg3 rfl) (Gd Tryz.isAgg3 rfl) (Ma Tryz.underlying3) (Kw (by decide) (Gd Tryz.isAgg3 rfl) (Gd Tryz.isAgg3 rfl) (Ma Tryz.underlying3) (Kw (by decide) (Gd Tryz.isAgg3 rfl) (Gd Tryz.isAgg3 rfl) (Ma Tryz.underlying3) (Kw (by decide) (Gd Tryz.isAgg3 rfl) (Gd Tryz.isAgg3 rfl) (Ma Tryz.underlying3) (Kw (by decide) (Gd Tryz.isAgg3 rfl) (Gd Tryz.isAgg3 rfl) (Ma Tryz.underlying3) GE))))))))
theorem rn_eql_43 {a : Act} {w : World} {x y : Operand} {u ty : TypeId} {m n : Em} (hx : a.eval x = .agg (Em.enc m).toArray) (hy : a.eval y = .agg (Em.enc n).toArray) : Rn Tryz.prog a w (.binOp .eql 43 x y u) ty (.bool (decide (m = n))) :=
  GF 2 (by kernel_rfl) (fun w=>eq_43 _ m n w) rfl hx hy
theorem VH {a : Act} {w : World} {x y : Operand} {u ty : TypeId} {m n : Em} (hx : a.eval x = .agg (Em.enc m).toArray) (hy : a.eval y = .agg (Em.enc n).toArray) : Rn Tryz.prog a w (.binOp .neq 43 x y u) ty (.bool (!decide (m = n))) :=
  GG 2 (by kernel_rfl) (fun w=>eq_43 _ m n w) rfl hx hy
theorem XC (dd : Nat) (x y : Eo) (w : World) : (Op.equalIn (dd + 2) 70 (.agg (Eo.enc x).toArray) (.agg (Eo.enc y).toArray)).run Tryz.prog w = .ok (decide (x = y)) w:=by
  refine Ws (dd:=dd + 1) (fs:=(Tryz.prog.fieldsOf 70).toList) (by kernel_rfl) rfl (by kernel_rfl) (?_ : _ = Result.ok (decide (x.site_ = y.site_) && (decide (x.no_ = y.no_) && true)) w) (by cases x; cases y; simp [Bool.decide_and])
  simp only [Program.fieldsOf,Tryz.underlying70]
  exact (Kw (by decide) (Gd Tryz.isAgg9 rfl) (Gd Tryz.isAgg9 rfl) (Pa Tryz.underlying9) (Kw (by decide) (Gd Tryz.isAgg3 rfl) (Gd Tryz.isAgg3 rfl) (Ma Tryz.underlying3) GE))
theorem rn_eql_70 {a : Act} {w : World} {x y : Operand} {u ty : TypeId} {m n : Eo} (hx : a.eval x = .agg (Eo.enc m).toArray) (hy : a.eval y = .agg (Eo.enc n).toArray) : Rn Tryz.prog a w (.binOp .eql 70 x y u) ty (.bool (decide (m = n))) :=
  GF 2 (by kernel_rfl) (fun w=>XC _ m n w) rfl hx hy
theorem rn_neq_70 {a : Act} {w : World} {x y : Operand} {u ty : TypeId} {m n : Eo} (hx : a.eval x = .agg (Eo.enc m).toArray) (hy : a.eval y = .agg (Eo.enc n).toArray) : Rn Tryz.prog a w (.binOp .neq 70 x y u) ty (.bool (!decide (m = n))) :=
  GG 2 (by kernel_rfl) (fun w=>XC _ m n w) rfl hx hy
theorem XD (dd : Nat) (x y : Li) (w : World) : (Op.equalIn (dd + 2) 102 (.agg (Li.enc x).toArray) (.agg (Li.enc y).toArray)).run Tryz.prog w = .ok (decide (x = y)) w:=by
  refine Ws (dd:=dd + 1) (fs:=(Tryz.prog.fieldsOf 102).toList) (by kernel_rfl) rfl (by kernel_rfl) (?_ : _ = Result.ok (decide (x.At = y.At) && (decide (x.Kind = y.Kind) && (decide (x.Id = y.Id) && (decide (x.Who = y.Who) && (decide (x.Club = y.Club) && (decide (x.Race = y.Race) && (decide (x.Age = y.Age) && (decide (x.Time = y.Time) && true)))))))) w) (by cases x; cases y; simp [Bool.decide_and])
  simp only [Program.fieldsOf,Tryz.underlying102]
  exact (Kw (by decide) (Gd Tryz.isAgg3 rfl) (Gd Tryz.isAgg3 rfl) (Ma Tryz.underlying3) (Kw (by decide) (Gd Tryz.isAgg3 rfl) (Gd Tryz.isAgg3 rfl) (Ma Tryz.underlying3) (Kw (by decide) (Gd Tryz.isAgg9 rfl) (Gd Tryz.isAgg9 rfl) (Pa Tryz.underlying9) (Kw (by decide) (Gd Tryz.isAgg9 rfl) (Gd Tryz.isAgg9 rfl) (Pa Tryz.underlying9) (Kw (by decide) (Gd Tryz.isAgg9 rfl) (Gd Tryz.isAgg9 rfl) (Pa Tryz.underlying9) (Kw (by decide) (Gd Tryz.isAgg9 rfl) (Gd Tryz.isAgg9 rfl) (Pa Tryz.underlying9) (Kw (by decide) (Gd Tryz.isAgg3 rfl) (Gd Tryz.isAgg3 rfl) (Ma Tryz.underlying3) (Kw (by decide) (Gd Tryz.isAgg3 rfl) (Gd Tryz.isAgg3 rfl) (Ma Tryz.underlying3) GE))))))))
theorem rn_eql_102 {a : Act} {w : World} {x y : Operand} {u ty : TypeId} {m n : Li} (hx : a.eval x = .agg (Li.enc m).toArray) (hy : a.eval y = .agg (Li.enc n).toArray) : Rn Tryz.prog a w (.binOp .eql 102 x y u) ty (.bool (decide (m = n))) :=
  GF 2 (by kernel_rfl) (fun w=>XD _ m n w) rfl hx hy
theorem RN {a : Act} {w : World} {x y : Operand} {u ty : TypeId} {m n : Li} (hx : a.eval x = .agg (Li.enc m).toArray) (hy : a.eval y = .agg (Li.enc n).toArray) : Rn Tryz.prog a w (.binOp .neq 102 x y u) ty (.bool (!decide (m = n))) :=
  GG 2 (by kernel_rfl) (fun w=>XD _ m n w) rfl hx hy
theorem RO (dd : Nat) (x y : Fv) (w : World) : (Op.equalIn (dd + 2) 258 (.agg (Fv.enc x).toArray) (.agg (Fv.enc y).toArray)).run Tryz.prog w = .ok (decide (x = y)) w:=by
  refine Ws (dd:=dd + 1) (fs:=(Tryz.prog.fieldsOf 258).toList) (by kernel_rfl) rfl (by kernel_rfl) (?_ : _ = Result.ok (decide (x.race_ = y.race_) && (decide (x.who_ = y.who_) && true)) w) (by cases x; cases y; simp [Bool.decide_and])
  simp only [Program.fieldsOf,Tryz.underlying258]
  exact (Kw (by decide) (Gd Tryz.isAgg9 rfl) (Gd Tryz.isAgg9 rfl) (Pa Tryz.underlying9) (Kw (by decide) (Gd Tryz.isAgg9 rfl) (Gd Tryz.isAgg9 rfl) (Pa Tryz.underlying9) GE))
theorem rn_eql_258 {a : Act} {w : World} {x y : Operand} {u ty : TypeId} {m n : Fv} (hx : a.eval x = .agg (Fv.enc m).toArray) (hy : a.eval y = .agg (Fv.enc n).toArray) : Rn Tryz.prog a w (.binOp .eql 258 x y u) ty (.bool (decide (m = n))) :=
  GF 2 (by kernel_rfl) (fun w=>RO _ m n w) rfl hx hy
theorem rn_neq_258 {a : Act} {w : World} {x y : Operand} {u ty : TypeId} {m n : Fv} (hx : a.eval x = .agg (Fv.enc m).toArray) (hy : a.eval y = .agg (Fv.enc n).toArray) : Rn Tryz.prog a w (.binOp .neq 258 x y u) ty (.bool (!decide (m = n))) :=
  GG 2 (by kernel_rfl) (fun w=>RO _ m n w) rfl hx hy
theorem EF : IU Tryz.prog 70 (fun x=>Value.agg (Eo.enc x).toArray) :=
  PB 2 rfl Tryz.underlying70 (fun em x w=>SY Tryz.underlying70 (by
    intro f hf _
    simp only [List.mem_cons,List.not_mem_nil,or_false] at hf
    rcases hf with rfl | rfl
    · exact ⟨_,fun w=>Gd Tryz.isAgg9 rfl,fun w=>NN Tryz.underlying9⟩
    · exact ⟨_,fun w=>Gd Tryz.isAgg3 rfl,fun w=>chk_int Tryz.underlying3⟩)) XC (fun x=>by simp [Instr.sameBits,Eo.enc,MJ])
theorem PR : IU Tryz.prog 258 (fun x=>Value.agg (Fv.enc x).toArray) :=
  PB 2 rfl Tryz.underlying258 (fun em x w=>SY Tryz.underlying258 (by
    intro f hf _
    simp only [List.mem_cons,List.not_mem_nil,or_false] at hf
    rcases hf with rfl | rfl
    · exact ⟨_,fun w=>Gd Tryz.isAgg9 rfl,fun w=>NN Tryz.underlying9⟩
    · exact ⟨_,fun w=>Gd Tryz.isAgg9 rfl,fun w=>NN Tryz.underlying9⟩)) RO (fun x=>by simp [Instr.sameBits,Fv.enc,MJ])
theorem bt_25 : Yo Tryz.prog 25 (.agg #[.slice none 0 0,iV 0]) [(0,1),(1,1)]:=⟨_,Tryz.underlying25,Tryz.zeroValue25,fun _=>by kernel_rfl⟩
theorem bt_28 : Yo Tryz.prog 28 (.agg #[.slice none 0 0,iV 0,iV 0]) [(0,1),(1,1),(2,1)]:=⟨_,Tryz.underlying28,Tryz.zeroValue28,fun _=>by kernel_rfl⟩
theorem bt_30 : Yo Tryz.prog 30 (.agg #[iV 0,iV 0,iV 0]) [(0,1),(1,1),(2,1)]:=⟨_,Tryz.underlying30,Tryz.zeroValue30,fun _=>by kernel_rfl⟩
theorem bt_32 : Yo Tryz.prog 32 (.agg #[.slice none 0 0,.slice none 0 0,iV 0,iV 0,iV 0,iV 0,iV 0]) [(0,1),(1,3),(4,3)]:=⟨_,Tryz.underlying32,Tryz.zeroValue32,fun _=>by kernel_rfl⟩
theorem XE : Yo Tryz.prog 41 (.agg #[sV An,iV 0,iV 0,iV 0,sV An,sV An,sV An,iV 0,iV 0,sV An,iV 0]) [(0,1),(1,1),(2,1),(3,1),(4,1),(5,1),(6,1),(7,1),(8,1),(9,1),(10,1)]:=⟨_,Tryz.underlying41,Tryz.zeroValue41,fun _=>by kernel_rfl⟩
theorem TK : Yo Tryz.prog 43 (.agg #[sV An,iV 0,iV 0,iV 0,iV 0,iV 0,iV 0,iV 0]) [(0,1),(1,1),(2,1),(3,1),(4,1),(5,1),(6,1),(7,1)]:=⟨_,Tryz.underlying43,Tryz.zeroValue43,fun _=>by kernel_rfl⟩
theorem TL : Yo Tryz.prog 49 (.agg #[iV 0,iV 0]) [(0,1),(1,1)]:=⟨_,Tryz.underlying49,Tryz.zeroValue49,fun _=>by kernel_rfl⟩
theorem bt_51 : Yo Tryz.prog 51 (.agg #[iV 0,sV An,sV An,iV 0,iV 0,iV 0,iV 0]) [(0,1),(1,1),(2,1),(3,1),(4,1),(5,2)]:=⟨_,Tryz.underlying51,Tryz.zeroValue51,fun _=>by kernel_rfl⟩
theorem bt_57 : Yo Tryz.prog 57 (.agg #[sV An,iV 0,iV 0]) [(0,1),(1,2)]:=⟨_,Tryz.underlying57,Tryz.zeroValue57,fun _=>by kernel_rfl⟩
theorem bt_70 : Yo Tryz.prog 70 (.agg #[sV An,iV 0]) [(0,1),(1,1)]:=⟨_,Tryz.underlying70,Tryz.zeroValue70,fun _=>by kernel_rfl⟩
theorem bt_86 : Yo Tryz.prog 86 (.agg #[iV 0,iV 0,iV 0]) [(0,1),(1,1),(2,1)]:=⟨_,Tryz.underlying86,Tryz.zeroValue86,fun _=>by kernel_rfl⟩
theorem bt_89 : Yo Tryz.prog 89 (.agg #[sV An,iV 0,iV 0,iV 0,iV 0]) [(0,1),(1,1),(2,1),(3,1),(4,1)]:=⟨_,Tryz.underlying89,Tryz.zeroValue89,fun _=>by kernel_rfl⟩
theorem bt_93 : Yo Tryz.prog 93 (.agg #[sV An,iV 0]) [(0,1),(1,1)]:=⟨_,Tryz.underlying93,Tryz.zeroValue93,fun _=>by kernel_rfl⟩
theorem bt_99 : Yo Tryz.prog 99 (.agg #[sV An,sV An,.slice none 0 0,iV 0,iV 0]) [(0,1),(1,1),(2,1),(3,1),(4,1)]:=⟨_,Tryz.underlying99,Tryz.zeroValue99,fun _=>by kernel_rfl⟩
theorem XF : Yo Tryz.prog 102 (.agg #[iV 0,iV 0,sV An,sV An,sV An,sV An,iV 0,iV 0]) [(0,1),(1,1),(2,1),(3,1),(4,1),(5,1),(6,1),(7,1)]:=⟨_,Tryz.underlying102,Tryz.zeroValue102,fun _=>by kernel_rfl⟩
theorem bt_127 : Yo Tryz.prog 127 (.agg #[sV An,iV 0,iV 0,iV 0]) [(0,1),(1,1),(2,1),(3,1)]:=⟨_,Tryz.underlying127,Tryz.zeroValue127,fun _=>by kernel_rfl⟩
theorem bt_129 : Yo Tryz.prog 129 (.agg #[sV An,sV An,sV An,iV 0,bV false]) [(0,1),(1,1),(2,1),(3,1),(4,1)]:=⟨_,Tryz.underlying129,Tryz.zeroValue129,fun _=>by kernel_rfl⟩
theorem bt_134 : Yo Tryz.prog 134 (.agg #[.slice none 0 0,.slice none 0 0,iV 0,iV 0,iV 0,iV 0,iV 0,.slice none 0 0]) [(0,7),(7,1)]:=⟨_,Tryz.underlying134,Tryz.zeroValue134,fun _=>by kernel_rfl⟩
theorem bt_177 : Yo Tryz.prog 177 (.agg #[sV An,iV 0]) [(0,1),(1,1)]:=⟨_,Tryz.underlying177,Tryz.zeroValue177,fun _=>by kernel_rfl⟩
theorem bt_179 : Yo Tryz.prog 179 (.agg #[sV An,iV 0,.slice none 0 0]) [(0,1),(1,1),(2,1)]:=⟨_,Tryz.underlying179,Tryz.zeroValue179,fun _=>by kernel_rfl⟩
theorem bt_187 : Yo Tryz.prog 187 (.agg #[sV An,sV An,sV An,iV 0,bV false,iV 0,iV 0]) [(0,5),(5,2)]:=⟨_,Tryz.underlying187,Tryz.zeroValue187,fun _=>by kernel_rfl⟩
theorem bt_197 : Yo Tryz.prog 197 (.agg #[iV 0,iV 0]) [(0,1),(1,1)]:=⟨_,Tryz.underlying197,Tryz.zeroValue197,fun _=>by kernel_rfl⟩
theorem bt_199 : Yo Tryz.prog 199 (.agg #[sV An,iV 0,iV 0,iV 0]) [(0,1),(1,1),(2,2)]:=⟨_,Tryz.underlying199,Tryz.zeroValue199,fun _=>by kernel_rfl⟩
theorem XG : Yo Tryz.prog 258 (.agg #[sV An,sV An]) [(0,1),(1,1)]:=⟨_,Tryz.underlying258,Tryz.zeroValue258,fun _=>by kernel_rfl⟩
end Go.Proofs.YtancihamhcdboaaGreatDoor
